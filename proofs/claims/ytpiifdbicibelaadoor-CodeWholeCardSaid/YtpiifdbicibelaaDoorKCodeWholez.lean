/- CodeWhole: the law returns true at every input, and its arguments read as before. Conditions: as the row has them (the listed tables as the program's text lays them). -/
import Derived.Test.YtpiifdbicibelaaDoorKCodeWhole1
section
namespace Go.Proofs.YtpiifdbicibelaaDoor.PA
open Go.RowKit Go.Proofs.YtpiifdbicibelaaDoorW.PrintWords Go.Proofs.YtpiifdbicibelaaDoorW.PrintLast Go.Proofs.YtpiifdbicibelaaDoorW.PrintMore
attribute [local go_sem] max2_int min2_int max_two min_two max_three min_three max_four min_four
set_option linter.unusedVariables false
set_option linter.unusedSimpArgs false
set_option maxHeartbeats 8000000 in
set_option maxRecDepth 100000 in
theorem vellumlaw02_CodeWhole.calls (k : Nat) (A0 : Option Addr) (c0 : Nat) (l0 : List (S32)) (a1 : ByteArray) (r : Bool) (w : World) (hr0 : Kd.C k32 w A0 l0.length l0) (hc0 : l0.length ≤ c0) (hG : Glob w) (h : vellumlaw02_CodeWhole.f k l0 a1 = some r) :
    Calls Tryd.prog 11 #[.slice A0 l0.length c0, .string a1] w fun e w' => e = .returned (.bool r) ∧ Below w.heap.size w w' := by
  have hu32 := Tryd.underlying32
  have HR0 := am hr0
  have HC0 := am hc0
  clear hr0 hc0
  have HG := am hG
  clear hG
  have HB := am (Below.refl w.heap.size w)
  have H : (vellumlaw02_CodeWhole.l0 k l0 a1 0 0) = some r := h
  clear h
  have H' := am H
  clear H
  go_enter Tryd.func11, Tryd.ntmps11
  go_wp2
  go_loopg [5, 6] k (fun kq v5 v6 w' => ∃ (x5_1 : Int) (x6_1 : Int), v5 = .int .i64 x5_1 ∧ v6 = .int .i64 x6_1 ∧ Aside0 (vellumlaw02_CodeWhole.l0 kq l0 a1 x5_1 x6_1 = some r) ∧ Aside0 (kq ≤ k) ∧ Aside0 (Below w.heap.size w w'))
  case atStart => exact ⟨(0), (0), eb, eb, H', ⟨Nat.le_refl _⟩, ⟨bl HB⟩⟩
  case round =>
    clear H'
    try clear c1
    try clear p2
    obtain ⟨x5_1, x6_1, rfl, rfl, HA, HK1, HB⟩ := hrel
    cases gk with
    | zero => exact absurd HA.out (by simp [vellumlaw02_CodeWhole.l0])
    | succ k1 =>
      have H := HA.out
      clear HA
      simp only [vellumlaw02_CodeWhole.l0] at H
      by_cases c3 : x6_1 < (l0.length : Int)
      · rw [if_pos c3] at H
        have c3b0 : decide (x6_1 < (l0.length : Int)) = true := decide_eq_true c3
        clear c3
        by_cases c4 : 0 ≤ x6_1
        · rw [if_pos c4] at H
          have c4b0 : decide (0 ≤ x6_1) = true := decide_eq_true c4
          clear c4
          replace H := Option.bind_eq_some_iff.mp H
          obtain ⟨t1076, A50, H⟩ := H
          replace H : (if t1076 = true then (vellumlaw02_CodeWhole.j1 k1 l0 a1 (wrap64 (x5_1 + 1)) x6_1) else (vellumlaw02_CodeWhole.j1 k1 l0 a1 x5_1 x6_1)) = some r := H
          have A5 := am A50
          clear A50
          have HC6 := am H
          clear H
          have p1075 : 0 ≤ (x6_1 : Int) := oda
          have q1075 : x6_1 < (l0.length : Int) := oda
          obtain ⟨ad1075, e1075, hx1075_0, hx1075_1, hx1075_2⟩ := at_T32 HR0.out x6_1 p1075 q1075
          cases e1075
          replace hx1075_0 := hc HB hx1075_0
          replace hx1075_1 := hc HB hx1075_1
          replace hx1075_2 := hc HB hx1075_2
          replace p1075 := eq_true p1075
          replace q1075 := eq_true q1075
          go_upto_if 23 with (first | ((with_reducible refine gate_callee (f := 28) rfl ?_); refine goesL_ (some 23) rfl rfl Tryd.func28 (by kernel_rfl) rfl #[.agg #[.string ((rd_T32 l0 x6_1).f0), .string ((rd_T32 l0 x6_1).f1), .bool ((rd_T32 l0 x6_1).f2)], .string a1] rfl ar ?_; (with_reducible refine (code_Has.calls ((rd_T32 l0 x6_1).f0) ((rd_T32 l0 x6_1).f1) ((rd_T32 l0 x6_1).f2) a1 t1076 _ A5.out).mono ?_); rintro e w7 ⟨rfl, hb⟩; refine ⟨_, rfl, ?_⟩; replace HB := sb HB hb; (try clear hb); (try clear hb2 hk hi)))
          (try simp only [Act.put, List.setIfInBounds_toArray, List.set_cons_zero, List.set_cons_succ])
          go_cut [5] (fun v5 wc => ∃ (kq : Nat) (x5_5 : Int), v5 = .int .i64 x5_5 ∧ Aside0 (vellumlaw02_CodeWhole.j1 kq l0 a1 x5_5 x6_1 = some r) ∧ Aside0 (kq ≤ k1) ∧ Aside0 (Below w.heap.size w wc))
          case first =>
            have H := HC6.out
            clear HC6
            by_cases c8 : t1076 = true
            · subst c8
              have H1 : (vellumlaw02_CodeWhole.j1 k1 l0 a1 (wrap64 (x5_1 + 1)) x6_1) = some r := by rw [if_pos rfl] at H; exact H
              clear H
              have H := H1
              clear H1
              have H' := am H
              clear H
              go_wp2
              go_meet
              case rel => exact ⟨_, (wrap64 (x5_1 + 1)), eb, H', ⟨by have := HK1.out; first | omega | exact Nat.le_refl _⟩, ⟨bl HB⟩⟩
            · replace c8 := Bool.eq_false_iff.mpr c8
              subst c8
              have H1 : (vellumlaw02_CodeWhole.j1 k1 l0 a1 x5_1 x6_1) = some r := by rw [if_neg (show ¬ (false = true) by decide)] at H; exact H
              clear H
              have H := H1
              clear H1
              have H' := am H
              clear H
              go_wp2
              go_meet
              case rel => exact ⟨_, (x5_1), eb, H', ⟨by have := HK1.out; first | omega | exact Nat.le_refl _⟩, ⟨bl HB⟩⟩
          case rest =>
            clear HC6
            try clear c1
            try clear p1
            try clear q1
            try clear hx1
            try clear c2
            try clear p2
            try clear c3
            try clear c3b0
            try clear c4
            try clear c4b0
            try clear p6
            try clear c8
            try clear hx1075_0
            try clear hx1075_1
            try clear hx1075_2
            try clear p1075
            try clear p2
            try clear q1075
            obtain ⟨kq, x5_5, rfl, HA, HJ5, HB⟩ := hcut
            cases kq with
            | zero => exact absurd HA.out (by simp [vellumlaw02_CodeWhole.j1])
            | succ kj5 =>
              have H := HA.out
              clear HA
              simp only [vellumlaw02_CodeWhole.j1] at H
              have H' := am H
              clear H
              go_wp2
              go_loopg [7] kj5 (fun kq v7 w' => ∃ (x7_3 : Int), v7 = .int .i64 x7_3 ∧ Aside0 (vellumlaw02_CodeWhole.l1 kq l0 a1 x5_5 x6_1 x7_3 = some r) ∧ Aside0 (kq ≤ kj5) ∧ Aside0 (Below w.heap.size w w'))
              case atStart => exact ⟨(0), eb, H', ⟨Nat.le_refl _⟩, ⟨bl HB⟩⟩
              case round =>
                clear H'
                try clear c1
                try clear p1
                try clear q1
                try clear hx1
                try clear c2
                try clear p2
                try clear c3
                try clear c3b0
                try clear c4
                try clear c4b0
                try clear p6
                try clear c8
                try clear hx1075_0
                try clear hx1075_1
                try clear hx1075_2
                try clear p1
                try clear p1075
                try clear p2
                try clear p6
                try clear q1
                try clear q1075
                obtain ⟨x7_3, rfl, HA, HK3, HB⟩ := hrel
                cases gk with
                | zero => exact absurd HA.out (by simp [vellumlaw02_CodeWhole.l1])
                | succ k3 =>
                  have H := HA.out
                  clear HA
                  simp only [vellumlaw02_CodeWhole.l1] at H
                  by_cases c9 : x7_3 < x6_1
                  · rw [if_pos c9] at H
                    have c9b0 : decide (x7_3 < x6_1) = true := decide_eq_true c9
                    clear c9
                    have HC10 := am H
                    clear H
                    go_upto_region 10 with (fail)
                    go_cut [8] (fun v8 wc => ∃ (kq : Nat) (x8_9 : Bool), v8 = .bool x8_9 ∧ Aside0 (vellumlaw02_CodeWhole.j3 kq l0 a1 x5_5 x6_1 x7_3 x8_9 = some r) ∧ Aside0 (kq ≤ k3) ∧ Aside0 (Below w.heap.size w wc))
                    case first =>
                      have H := HC10.out
                      clear HC10
                      by_cases c11 : 0 ≤ x6_1
                      · rw [if_pos c11] at H
                        have c11b0 : decide (0 ≤ x6_1) = true := decide_eq_true c11
                        clear c11
                        (first | rw [c11b0] | (simp only [i64_w, i32_w]; rw [c11b0]) | skip)
                        by_cases c12 : x6_1 < (l0.length : Int)
                        · rw [if_pos c12] at H
                          have c12b0 : decide (x6_1 < (l0.length : Int)) = true := decide_eq_true c12
                          clear c12
                          replace H := Option.bind_eq_some_iff.mp H
                          obtain ⟨t1078, A130, H⟩ := H
                          replace H : (if t1078 = true then (if 0 ≤ x7_3 then (if x7_3 < (l0.length : Int) then ((code_Has.f ((rd_T32 l0 x7_3).f0) ((rd_T32 l0 x7_3).f1) ((rd_T32 l0 x7_3).f2) a1).bind fun t1080 => (vellumlaw02_CodeWhole.j3 k3 l0 a1 x5_5 x6_1 x7_3 t1080)) else (none)) else (none)) else (vellumlaw02_CodeWhole.j3 k3 l0 a1 x5_5 x6_1 x7_3 false)) = some r := H
                          have A13 := am A130
                          clear A130
                          by_cases c14 : t1078 = true
                          · subst c14
                            have H1 : (if 0 ≤ x7_3 then (if x7_3 < (l0.length : Int) then ((code_Has.f ((rd_T32 l0 x7_3).f0) ((rd_T32 l0 x7_3).f1) ((rd_T32 l0 x7_3).f2) a1).bind fun t1080 => (vellumlaw02_CodeWhole.j3 k3 l0 a1 x5_5 x6_1 x7_3 t1080)) else (none)) else (none)) = some r := by rw [if_pos rfl] at H; exact H
                            clear H
                            have H := H1
                            clear H1
                            by_cases c15 : 0 ≤ x7_3
                            · rw [if_pos c15] at H
                              have c15b0 : decide (0 ≤ x7_3) = true := decide_eq_true c15
                              clear c15
                              by_cases c16 : x7_3 < (l0.length : Int)
                              · rw [if_pos c16] at H
                                have c16b0 : decide (x7_3 < (l0.length : Int)) = true := decide_eq_true c16
                                clear c16
                                replace H := Option.bind_eq_some_iff.mp H
                                obtain ⟨t1080, A170, H⟩ := H
                                replace H : (vellumlaw02_CodeWhole.j3 k3 l0 a1 x5_5 x6_1 x7_3 t1080) = some r := H
                                have A17 := am A170
                                clear A170
                                have H' := am H
                                clear H
                                have p1077 : 0 ≤ (x6_1 : Int) := oda
                                have q1077 : x6_1 < (l0.length : Int) := oda
                                obtain ⟨ad1077, e1077, hx1077_0, hx1077_1, hx1077_2⟩ := at_T32 HR0.out x6_1 p1077 q1077
                                obtain rfl : ad1075 = ad1077 := (by injection e1077)
                                replace hx1077_0 := hc HB hx1077_0
                                replace hx1077_1 := hc HB hx1077_1
                                replace hx1077_2 := hc HB hx1077_2
                                replace p1077 := eq_true p1077
                                replace q1077 := eq_true q1077
                                go_wp2_with (first | ((with_reducible refine gate_callee (f := 28) rfl ?_); refine goesL_ (some 36) rfl rfl Tryd.func28 (by kernel_rfl) rfl #[.agg #[.string ((rd_T32 l0 x6_1).f0), .string ((rd_T32 l0 x6_1).f1), .bool ((rd_T32 l0 x6_1).f2)], .string a1] rfl ar ?_; (with_reducible refine (code_Has.calls ((rd_T32 l0 x6_1).f0) ((rd_T32 l0 x6_1).f1) ((rd_T32 l0 x6_1).f2) a1 true _ A13.out).mono ?_); rintro e w18 ⟨rfl, hb⟩; refine ⟨_, rfl, ?_⟩; replace HB := sb HB hb; (try clear hb); (try clear hb2 hk hi); have p1079 : 0 ≤ (x7_3 : Int) := oda; have q1079 : x7_3 < (l0.length : Int) := oda; obtain ⟨ad1079, e1079, hx1079_0, hx1079_1, hx1079_2⟩ := at_T32 HR0.out x7_3 p1079 q1079; obtain rfl : ad1075 = ad1079 := (by injection e1079); replace hx1079_0 := hc HB hx1079_0; replace hx1079_1 := hc HB hx1079_1; replace hx1079_2 := hc HB hx1079_2; replace p1079 := eq_true p1079; replace q1079 := eq_true q1079) | (go_at_call 28; (with_reducible refine (code_Has.calls ((rd_T32 l0 x7_3).f0) ((rd_T32 l0 x7_3).f1) ((rd_T32 l0 x7_3).f2) a1 t1080 _ A17.out).mono ?_); rintro e w19 ⟨rfl, hb⟩; replace HB := sb HB hb; (try clear hb); (try clear hb2 hk hi)))
                                go_meet
                                case rel => exact ⟨_, (t1080), eb, H', ⟨by have := HK1.out; have := HJ5.out; have := HK3.out; first | omega | exact Nat.le_refl _⟩, ⟨bl HB⟩⟩
                              · rw [if_neg c16] at H
                                exact absurd H (by simp)
                            · rw [if_neg c15] at H
                              exact absurd H (by simp)
                          · replace c14 := Bool.eq_false_iff.mpr c14
                            subst c14
                            have H1 : (vellumlaw02_CodeWhole.j3 k3 l0 a1 x5_5 x6_1 x7_3 false) = some r := by rw [if_neg (show ¬ (false = true) by decide)] at H; exact H
                            clear H
                            have H := H1
                            clear H1
                            have H' := am H
                            clear H
                            have p1077 : 0 ≤ (x6_1 : Int) := oda
                            have q1077 : x6_1 < (l0.length : Int) := oda
                            obtain ⟨ad1077, e1077, hx1077_0, hx1077_1, hx1077_2⟩ := at_T32 HR0.out x6_1 p1077 q1077
                            obtain rfl : ad1075 = ad1077 := (by injection e1077)
                            replace hx1077_0 := hc HB hx1077_0
                            replace hx1077_1 := hc HB hx1077_1
                            replace hx1077_2 := hc HB hx1077_2
                            replace p1077 := eq_true p1077
                            replace q1077 := eq_true q1077
                            go_wp2_with (first | ((with_reducible refine gate_callee (f := 28) rfl ?_); refine goesL_ (some 36) rfl rfl Tryd.func28 (by kernel_rfl) rfl #[.agg #[.string ((rd_T32 l0 x6_1).f0), .string ((rd_T32 l0 x6_1).f1), .bool ((rd_T32 l0 x6_1).f2)], .string a1] rfl ar ?_; (with_reducible refine (code_Has.calls ((rd_T32 l0 x6_1).f0) ((rd_T32 l0 x6_1).f1) ((rd_T32 l0 x6_1).f2) a1 false _ A13.out).mono ?_); rintro e w20 ⟨rfl, hb⟩; refine ⟨_, rfl, ?_⟩; replace HB := sb HB hb; (try clear hb); (try clear hb2 hk hi)))
                            go_meet
                            case rel => exact ⟨_, (false), eb, H', ⟨by have := HK1.out; have := HJ5.out; have := HK3.out; first | omega | exact Nat.le_refl _⟩, ⟨bl HB⟩⟩
                        · rw [if_neg c12] at H
                          exact absurd H (by simp)
                      · rw [if_neg c11] at H
                        exact absurd H (by simp)
                    case rest =>
                      clear HC10
                      try clear c1
                      try clear p1
                      try clear q1
                      try clear hx1
                      try clear c2
                      try clear p2
                      try clear c3
                      try clear c3b0
                      try clear c4
                      try clear c4b0
                      try clear p6
                      try clear c8
                      try clear c9
                      try clear c9b0
                      try clear p10
                      try clear q10
                      try clear hx10
                      try clear c11
                      try clear c11b0
                      try clear c12
                      try clear c12b0
                      try clear c14
                      try clear c15
                      try clear c15b0
                      try clear c16
                      try clear c16b0
                      try clear hx1075_0
                      try clear hx1075_1
                      try clear hx1075_2
                      try clear hx1077_0
                      try clear hx1077_1
                      try clear hx1077_2
                      try clear hx1079_0
                      try clear hx1079_1
                      try clear hx1079_2
                      try clear p1
                      try clear p1075
                      try clear p1077
                      try clear p1079
                      try clear p2
                      try clear p6
                      try clear q1
                      try clear q1075
                      try clear q1077
                      try clear q1079
                      obtain ⟨kq, x8_9, rfl, HA, HJ9, HB⟩ := hcut
                      cases kq with
                      | zero => exact absurd HA.out (by simp [vellumlaw02_CodeWhole.j3])
                      | succ kj9 =>
                        have H := HA.out
                        clear HA
                        simp only [vellumlaw02_CodeWhole.j3] at H
                        by_cases c21 : 0 ≤ x6_1
                        · rw [if_pos c21] at H
                          have c21b0 : decide (0 ≤ x6_1) = true := decide_eq_true c21
                          clear c21
                          by_cases c22 : x6_1 < (l0.length : Int)
                          · rw [if_pos c22] at H
                            have c22b0 : decide (x6_1 < (l0.length : Int)) = true := decide_eq_true c22
                            clear c22
                            by_cases c23 : 0 ≤ x7_3
                            · rw [if_pos c23] at H
                              have c23b0 : decide (0 ≤ x7_3) = true := decide_eq_true c23
                              clear c23
                              by_cases c24 : x7_3 < (l0.length : Int)
                              · rw [if_pos c24] at H
                                have c24b0 : decide (x7_3 < (l0.length : Int)) = true := decide_eq_true c24
                                clear c24
                                replace H := Option.bind_eq_some_iff.mp H
                                obtain ⟨⟨t1083, t1084, t1085⟩, A250, H⟩ := H
                                replace H : ((code_Has.f t1083 t1084 t1085 a1).bind fun t1086 => (if (t1086 != x8_9) = true then (some false) else (if x8_9 = true then ((code_Meet.f ((rd_T32 l0 x6_1).f0) ((rd_T32 l0 x6_1).f1) ((rd_T32 l0 x6_1).f2) ((rd_T32 l0 x7_3).f0) ((rd_T32 l0 x7_3).f1) ((rd_T32 l0 x7_3).f2)).bind fun t1089 => (if t1089 = true then (vellumlaw02_CodeWhole.l1 kj9 l0 a1 x5_5 x6_1 (wrap64 (x7_3 + 1))) else (some false))) else (vellumlaw02_CodeWhole.l1 kj9 l0 a1 x5_5 x6_1 (wrap64 (x7_3 + 1)))))) = some r := H
                                have A25 := am A250
                                clear A250
                                replace H := Option.bind_eq_some_iff.mp H
                                obtain ⟨t1086, A260, H⟩ := H
                                replace H : (if (t1086 != x8_9) = true then (some false) else (if x8_9 = true then ((code_Meet.f ((rd_T32 l0 x6_1).f0) ((rd_T32 l0 x6_1).f1) ((rd_T32 l0 x6_1).f2) ((rd_T32 l0 x7_3).f0) ((rd_T32 l0 x7_3).f1) ((rd_T32 l0 x7_3).f2)).bind fun t1089 => (if t1089 = true then (vellumlaw02_CodeWhole.l1 kj9 l0 a1 x5_5 x6_1 (wrap64 (x7_3 + 1))) else (some false))) else (vellumlaw02_CodeWhole.l1 kj9 l0 a1 x5_5 x6_1 (wrap64 (x7_3 + 1))))) = some r := H
                                have A26 := am A260
                                clear A260
                                by_cases c27 : (t1086 != x8_9) = true
                                · rw [if_pos c27] at H
                                  have c27b0 : (t1086 != x8_9) = true := c27
                                  (try (have c27b1 : decide (t1086 = x8_9) = false := by simpa using c27))
                                  (try (have c27b2 : (t1086 == x8_9) = false := by simpa using c27))
                                  (try (have c27b3 : ¬ (t1086 = x8_9) := by simpa using c27))
                                  clear c27
                                  obtain rfl := Option.some.inj H
                                  try go_wp2
                                  have n0_ := am (below_drew1 HB.out)
                                  clear HB
                                  have HB := n0_
                                  clear n0_
                                  have p1081 : 0 ≤ (x6_1 : Int) := oda
                                  have q1081 : x6_1 < (l0.length : Int) := oda
                                  obtain ⟨ad1081, e1081, hx1081_0, hx1081_1, hx1081_2⟩ := at_T32 HR0.out x6_1 p1081 q1081
                                  have hw1081_2 := hx1081_2
                                  have hw1081_1 := hx1081_1
                                  have hw1081_0 := hx1081_0
                                  obtain rfl : ad1075 = ad1081 := (by injection e1081)
                                  replace hx1081_0 := hc HB hx1081_0
                                  replace hx1081_1 := hc HB hx1081_1
                                  replace hx1081_2 := hc HB hx1081_2
                                  replace p1081 := eq_true p1081
                                  replace q1081 := eq_true q1081
                                  have p1082 : 0 ≤ (x7_3 : Int) := oda
                                  have q1082 : x7_3 < (l0.length : Int) := oda
                                  obtain ⟨ad1082, e1082, hx1082_0, hx1082_1, hx1082_2⟩ := at_T32 HR0.out x7_3 p1082 q1082
                                  have hw1082_2 := hx1082_2
                                  have hw1082_1 := hx1082_1
                                  have hw1082_0 := hx1082_0
                                  obtain rfl : ad1075 = ad1082 := (by injection e1082)
                                  replace hx1082_0 := hc HB hx1082_0
                                  replace hx1082_1 := hc HB hx1082_1
                                  replace hx1082_2 := hc HB hx1082_2
                                  replace p1082 := eq_true p1082
                                  replace q1082 := eq_true q1082
                                  refine start_ (n := 28) (S := fun w' => w'.cell? (ad1075.add ((x6_1).toNat * 3)) = some (.string ((rd_T32 l0 x6_1).f0)) ∧ w'.cell? ⟨(ad1075.add ((x6_1).toNat * 3)).block, (ad1075.add ((x6_1).toNat * 3)).off + 1, none⟩ = some (.string ((rd_T32 l0 x6_1).f1)) ∧ w'.cell? ⟨(ad1075.add ((x6_1).toNat * 3)).block, (ad1075.add ((x6_1).toNat * 3)).off + 2, none⟩ = some (.bool ((rd_T32 l0 x6_1).f2)) ∧ w'.cell? (ad1075.add ((x7_3).toNat * 3)) = some (.string ((rd_T32 l0 x7_3).f0)) ∧ w'.cell? ⟨(ad1075.add ((x7_3).toNat * 3)).block, (ad1075.add ((x7_3).toNat * 3)).off + 1, none⟩ = some (.string ((rd_T32 l0 x7_3).f1)) ∧ w'.cell? ⟨(ad1075.add ((x7_3).toNat * 3)).block, (ad1075.add ((x7_3).toNat * 3)).off + 2, none⟩ = some (.bool ((rd_T32 l0 x7_3).f2))) (ds := []) (bb 0 28) (by kernel_rfl) rfl rfl ⟨(hc HB hw1081_0), (hc HB hw1081_1), (hc HB hw1081_2), (hc HB hw1082_0), (hc HB hw1082_1), (hc HB hw1082_2)⟩ (fun hHeld => ?_); refine with_tabW vellumlaw02_CodeWhole.tab11 vellumlaw02_CodeWhole.bits11 (fun HT_ HW_ => ?_)
                                  generalize wc.drew = w28 at HB hx1081_0 hx1081_1 hx1081_2 hx1082_0 hx1082_1 hx1082_2 hHeld ⊢
                                  refine pu HT_ 0 (some 45) (bb 1 28) ?_
                                  refine pu HT_ 1 (some 46) (bb 2 28) ?_
                                  refine pu HT_ 2 (some 47) (bb 3 28) ?_
                                  refine pu HT_ 4 (some 49) (bs 28 23) ?_
                                  refine pu HT_ 5 (some 50) (bs 28 55) ?_
                                  refine pu HT_ 6 (some 51) (bs 28 119) ?_
                                  refine pu HT_ 9 (some 54) (bs 28 631) ?_
                                  refine pu HT_ 11 (some 56) (bs 28 2679) ?_
                                  refine tk HT_ HW_ hHeld 3 (some 48) (bs 28 2687) ?_
                                  refine tk HT_ HW_ hHeld 7 (some 52) (bs 28 2815) ?_
                                  refine one_ (i := 8) (N := some 53) (bs 28 3071) rfl rfl (one_of HT_.out (by kernel_rfl)) (by decide) (fun K hK => ?_)
                                  refine goes_ Tryd.func32 (by kernel_rfl) rfl #[.agg #[.string ((rd_T32 l0 x6_1).f0), .string ((rd_T32 l0 x6_1).f1), .bool ((rd_T32 l0 x6_1).f2)], .agg #[.string ((rd_T32 l0 x7_3).f0), .string ((rd_T32 l0 x7_3).f1), .bool ((rd_T32 l0 x7_3).f2)]] (by rfl) rfl rfl ar ?_
                                  with_reducible refine (code_Both.calls ((rd_T32 l0 x6_1).f0) ((rd_T32 l0 x6_1).f1) ((rd_T32 l0 x6_1).f2) ((rd_T32 l0 x7_3).f0) ((rd_T32 l0 x7_3).f1) ((rd_T32 l0 x7_3).f2) t1083 t1084 t1085 _ A25.out).mono ?_
                                  rintro e w29 ⟨rfl, hb⟩
                                  refine ⟨_, rfl, ?_⟩
                                  have n0_ := sb HB hb
                                  clear HB
                                  have HB := n0_
                                  clear n0_
                                  (try clear hb)
                                  (try clear hb2)
                                  (try clear hk)
                                  (try clear hi)
                                  refine hK.out _ _ ⟨(hc HB hw1081_0), (hc HB hw1081_1), (hc HB hw1081_2), (hc HB hw1082_0), (hc HB hw1082_1), (hc HB hw1082_2)⟩ (fun hHeld => ?_)
                                  clear hK K
                                  refine norm_ (a' := ?_) ?_ ?_
                                  rotate_left
                                  · show Act.put _ (some 53) _ = _
                                    simp only [Act.put, List.setIfInBounds_toArray, List.set_cons_zero, List.set_cons_succ, i64_w, i32_w]
                                    rfl
                                  refine one_ (i := 10) (N := some 55) (bb 12 28) rfl rfl (one_of HT_.out (by kernel_rfl)) (by decide) (fun K hK => ?_)
                                  refine goes_ Tryd.func28 (by kernel_rfl) rfl #[.agg #[.string t1083, .string t1084, .bool t1085], .string a1] (by rfl) rfl rfl ar ?_
                                  with_reducible refine (code_Has.calls t1083 t1084 t1085 a1 t1086 _ A26.out).mono ?_
                                  rintro e w30 ⟨rfl, hb⟩
                                  refine ⟨_, rfl, ?_⟩
                                  have n0_ := sb HB hb
                                  clear HB
                                  have HB := n0_
                                  clear n0_
                                  (try clear hb)
                                  (try clear hb2)
                                  (try clear hk)
                                  (try clear hi)
                                  refine hK.out _ _ ⟨(hc HB hw1081_0), (hc HB hw1081_1), (hc HB hw1081_2), (hc HB hw1082_0), (hc HB hw1082_1), (hc HB hw1082_2)⟩ (fun hHeld => ?_)
                                  clear hK K
                                  refine norm_ (a' := ?_) ?_ ?_
                                  rotate_left
                                  · show Act.put _ (some 55) _ = _
                                    simp only [Act.put, List.setIfInBounds_toArray, List.set_cons_zero, List.set_cons_succ, i64_w, i32_w]
                                    rfl
                                  refine pu HT_ 12 (some 57) (bb 13 28) ?_
                                  refine pu HT_ 13 (some 58) (bb 14 28) ?_
                                  refine pure_ (i := 14) (N := some 59) (v := undef) (a' := ?_) (bb 15 28) rfl rfl (any_of HT_.out (by kernel_rfl)) (fun _ _ _ h => h) (Or.inr ⟨by rfl, rfl⟩) ?_ ?_
                                  rotate_left
                                  · simp only [Act.put, List.setIfInBounds_toArray, List.set_cons_zero, List.set_cons_succ, i64_w, i32_w]
                                    rfl
                                  refine pure_ (i := 15) (N := some 60) (v := undef) (a' := ?_) (bb 16 28) rfl rfl (any_of HT_.out (by kernel_rfl)) (fun _ _ _ h => h) (Or.inr ⟨by rfl, rfl⟩) ?_ ?_
                                  rotate_left
                                  · simp only [Act.put, List.setIfInBounds_toArray, List.set_cons_zero, List.set_cons_succ, i64_w, i32_w]
                                    rfl
                                  refine pure_ (i := 16) (N := some 61) (v := undef) (a' := ?_) (bb 17 28) rfl rfl (any_of HT_.out (by kernel_rfl)) (fun _ _ _ h => h) (Or.inr ⟨by rfl, rfl⟩) ?_ ?_
                                  rotate_left
                                  · simp only [Act.put, List.setIfInBounds_toArray, List.set_cons_zero, List.set_cons_succ, i64_w, i32_w]
                                    rfl
                                  refine pure_ (i := 17) (N := some 62) (v := undef) (a' := ?_) (bb 18 28) rfl rfl (any_of HT_.out (by kernel_rfl)) (fun _ _ _ h => h) (Or.inr ⟨by rfl, rfl⟩) ?_ ?_
                                  rotate_left
                                  · simp only [Act.put, List.setIfInBounds_toArray, List.set_cons_zero, List.set_cons_succ, i64_w, i32_w]
                                    rfl
                                  refine pure_ (i := 18) (N := some 63) (v := undef) (a' := ?_) (bb 19 28) rfl rfl (any_of HT_.out (by kernel_rfl)) (fun _ _ _ h => h) (Or.inr ⟨by rfl, rfl⟩) ?_ ?_
                                  rotate_left
                                  · simp only [Act.put, List.setIfInBounds_toArray, List.set_cons_zero, List.set_cons_succ, i64_w, i32_w]
                                    rfl
                                  refine pure_ (i := 19) (N := some 64) (v := undef) (a' := ?_) (bb 20 28) rfl rfl (any_of HT_.out (by kernel_rfl)) (fun _ _ _ h => h) (Or.inr ⟨by rfl, rfl⟩) ?_ ?_
                                  rotate_left
                                  · simp only [Act.put, List.setIfInBounds_toArray, List.set_cons_zero, List.set_cons_succ, i64_w, i32_w]
                                    rfl
                                  refine pure_ (i := 20) (N := some 65) (v := undef) (a' := ?_) (bb 21 28) rfl rfl (any_of HT_.out (by kernel_rfl)) (fun _ _ _ h => h) (Or.inr ⟨by rfl, rfl⟩) ?_ ?_
                                  rotate_left
                                  · simp only [Act.put, List.setIfInBounds_toArray, List.set_cons_zero, List.set_cons_succ, i64_w, i32_w]
                                    rfl
                                  refine pure_ (i := 21) (N := some 66) (v := undef) (a' := ?_) (bb 22 28) rfl rfl (any_of HT_.out (by kernel_rfl)) (fun _ _ _ h => h) (Or.inr ⟨by rfl, rfl⟩) ?_ ?_
                                  rotate_left
                                  · simp only [Act.put, List.setIfInBounds_toArray, List.set_cons_zero, List.set_cons_succ, i64_w, i32_w]
                                    rfl
                                  refine pure_ (i := 22) (N := some 67) (v := undef) (a' := ?_) (bb 23 28) rfl rfl (any_of HT_.out (by kernel_rfl)) (fun _ _ _ h => h) (Or.inr ⟨by rfl, rfl⟩) ?_ ?_
                                  rotate_left
                                  · simp only [Act.put, List.setIfInBounds_toArray, List.set_cons_zero, List.set_cons_succ, i64_w, i32_w]
                                    rfl
                                  refine pure_ (i := 23) (N := some 68) (v := undef) (a' := ?_) (bb 24 28) rfl rfl (any_of HT_.out (by kernel_rfl)) (fun _ _ _ h => h) (Or.inr ⟨by rfl, rfl⟩) ?_ ?_
                                  rotate_left
                                  · simp only [Act.put, List.setIfInBounds_toArray, List.set_cons_zero, List.set_cons_succ, i64_w, i32_w]
                                    rfl
                                  refine pure_ (i := 24) (N := some 69) (v := undef) (a' := ?_) (bb 25 28) rfl rfl (any_of HT_.out (by kernel_rfl)) (fun _ _ _ h => h) (Or.inr ⟨by rfl, rfl⟩) ?_ ?_
                                  rotate_left
                                  · simp only [Act.put, List.setIfInBounds_toArray, List.set_cons_zero, List.set_cons_succ, i64_w, i32_w]
                                    rfl
                                  refine pure_ (i := 25) (N := some 70) (v := undef) (a' := ?_) (bb 26 28) rfl rfl (any_of HT_.out (by kernel_rfl)) (fun _ _ _ h => h) (Or.inr ⟨by rfl, rfl⟩) ?_ ?_
                                  rotate_left
                                  · simp only [Act.put, List.setIfInBounds_toArray, List.set_cons_zero, List.set_cons_succ, i64_w, i32_w]
                                    rfl
                                  refine pure_ (i := 26) (N := some 71) (v := undef) (a' := ?_) (bb 27 28) rfl rfl (any_of HT_.out (by kernel_rfl)) (fun _ _ _ h => h) (Or.inr ⟨by rfl, rfl⟩) ?_ ?_
                                  rotate_left
                                  · simp only [Act.put, List.setIfInBounds_toArray, List.set_cons_zero, List.set_cons_succ, i64_w, i32_w]
                                    rfl
                                  refine pu HT_ 27 (some 72) (bb 28 28) ?_
                                  refine done_ (done_of HT_.out (by kernel_rfl)) ?_
                                  try go_wp2
                                  go_ret
                                  exact ⟨er, bl HB⟩
                                · rw [if_neg c27] at H
                                  have c27b0 : (t1086 != x8_9) = false := by simpa using c27
                                  (try (have c27b1 : decide (t1086 = x8_9) = true := by simpa using c27))
                                  (try (have c27b2 : (t1086 == x8_9) = true := by simpa using c27))
                                  clear c27
                                  by_cases c31 : x8_9 = true
                                  · subst c31
                                    have H1 : ((code_Meet.f ((rd_T32 l0 x6_1).f0) ((rd_T32 l0 x6_1).f1) ((rd_T32 l0 x6_1).f2) ((rd_T32 l0 x7_3).f0) ((rd_T32 l0 x7_3).f1) ((rd_T32 l0 x7_3).f2)).bind fun t1089 => (if t1089 = true then (vellumlaw02_CodeWhole.l1 kj9 l0 a1 x5_5 x6_1 (wrap64 (x7_3 + 1))) else (some false))) = some r := by rw [if_pos rfl] at H; exact H
                                    clear H
                                    have H := H1
                                    clear H1
                                    replace H := Option.bind_eq_some_iff.mp H
                                    obtain ⟨t1089, A320, H⟩ := H
                                    replace H : (if t1089 = true then (vellumlaw02_CodeWhole.l1 kj9 l0 a1 x5_5 x6_1 (wrap64 (x7_3 + 1))) else (some false)) = some r := H
                                    have A32 := am A320
                                    clear A320
                                    by_cases c33 : t1089 = true
                                    · subst c33
                                      have H1 : (vellumlaw02_CodeWhole.l1 kj9 l0 a1 x5_5 x6_1 (wrap64 (x7_3 + 1))) = some r := by rw [if_pos rfl] at H; exact H
                                      clear H
                                      have H := H1
                                      clear H1
                                      have H' := am H
                                      clear H
                                      try go_wp2
                                      have n0_ := am (below_drew1 HB.out)
                                      clear HB
                                      have HB := n0_
                                      clear n0_
                                      have p1081 : 0 ≤ (x6_1 : Int) := oda
                                      have q1081 : x6_1 < (l0.length : Int) := oda
                                      obtain ⟨ad1081, e1081, hx1081_0, hx1081_1, hx1081_2⟩ := at_T32 HR0.out x6_1 p1081 q1081
                                      have hw1081_2 := hx1081_2
                                      have hw1081_1 := hx1081_1
                                      have hw1081_0 := hx1081_0
                                      obtain rfl : ad1075 = ad1081 := (by injection e1081)
                                      replace hx1081_0 := hc HB hx1081_0
                                      replace hx1081_1 := hc HB hx1081_1
                                      replace hx1081_2 := hc HB hx1081_2
                                      replace p1081 := eq_true p1081
                                      replace q1081 := eq_true q1081
                                      have p1082 : 0 ≤ (x7_3 : Int) := oda
                                      have q1082 : x7_3 < (l0.length : Int) := oda
                                      obtain ⟨ad1082, e1082, hx1082_0, hx1082_1, hx1082_2⟩ := at_T32 HR0.out x7_3 p1082 q1082
                                      have hw1082_2 := hx1082_2
                                      have hw1082_1 := hx1082_1
                                      have hw1082_0 := hx1082_0
                                      obtain rfl : ad1075 = ad1082 := (by injection e1082)
                                      replace hx1082_0 := hc HB hx1082_0
                                      replace hx1082_1 := hc HB hx1082_1
                                      replace hx1082_2 := hc HB hx1082_2
                                      replace p1082 := eq_true p1082
                                      replace q1082 := eq_true q1082
                                      have p1087 : 0 ≤ (x6_1 : Int) := oda
                                      have q1087 : x6_1 < (l0.length : Int) := oda
                                      obtain ⟨ad1087, e1087, hx1087_0, hx1087_1, hx1087_2⟩ := at_T32 HR0.out x6_1 p1087 q1087
                                      have hw1087_2 := hx1087_2
                                      have hw1087_1 := hx1087_1
                                      have hw1087_0 := hx1087_0
                                      obtain rfl : ad1075 = ad1087 := (by injection e1087)
                                      replace hx1087_0 := hc HB hx1087_0
                                      replace hx1087_1 := hc HB hx1087_1
                                      replace hx1087_2 := hc HB hx1087_2
                                      replace p1087 := eq_true p1087
                                      replace q1087 := eq_true q1087
                                      have p1088 : 0 ≤ (x7_3 : Int) := oda
                                      have q1088 : x7_3 < (l0.length : Int) := oda
                                      obtain ⟨ad1088, e1088, hx1088_0, hx1088_1, hx1088_2⟩ := at_T32 HR0.out x7_3 p1088 q1088
                                      have hw1088_2 := hx1088_2
                                      have hw1088_1 := hx1088_1
                                      have hw1088_0 := hx1088_0
                                      obtain rfl : ad1075 = ad1088 := (by injection e1088)
                                      replace hx1088_0 := hc HB hx1088_0
                                      replace hx1088_1 := hc HB hx1088_1
                                      replace hx1088_2 := hc HB hx1088_2
                                      replace p1088 := eq_true p1088
                                      replace q1088 := eq_true q1088
                                      refine start_ (n := 28) (S := fun w' => w'.cell? (ad1075.add ((x6_1).toNat * 3)) = some (.string ((rd_T32 l0 x6_1).f0)) ∧ w'.cell? ⟨(ad1075.add ((x6_1).toNat * 3)).block, (ad1075.add ((x6_1).toNat * 3)).off + 1, none⟩ = some (.string ((rd_T32 l0 x6_1).f1)) ∧ w'.cell? ⟨(ad1075.add ((x6_1).toNat * 3)).block, (ad1075.add ((x6_1).toNat * 3)).off + 2, none⟩ = some (.bool ((rd_T32 l0 x6_1).f2)) ∧ w'.cell? (ad1075.add ((x7_3).toNat * 3)) = some (.string ((rd_T32 l0 x7_3).f0)) ∧ w'.cell? ⟨(ad1075.add ((x7_3).toNat * 3)).block, (ad1075.add ((x7_3).toNat * 3)).off + 1, none⟩ = some (.string ((rd_T32 l0 x7_3).f1)) ∧ w'.cell? ⟨(ad1075.add ((x7_3).toNat * 3)).block, (ad1075.add ((x7_3).toNat * 3)).off + 2, none⟩ = some (.bool ((rd_T32 l0 x7_3).f2)) ∧ w'.cell? (ad1075.add ((x6_1).toNat * 3)) = some (.string ((rd_T32 l0 x6_1).f0)) ∧ w'.cell? ⟨(ad1075.add ((x6_1).toNat * 3)).block, (ad1075.add ((x6_1).toNat * 3)).off + 1, none⟩ = some (.string ((rd_T32 l0 x6_1).f1)) ∧ w'.cell? ⟨(ad1075.add ((x6_1).toNat * 3)).block, (ad1075.add ((x6_1).toNat * 3)).off + 2, none⟩ = some (.bool ((rd_T32 l0 x6_1).f2)) ∧ w'.cell? (ad1075.add ((x7_3).toNat * 3)) = some (.string ((rd_T32 l0 x7_3).f0)) ∧ w'.cell? ⟨(ad1075.add ((x7_3).toNat * 3)).block, (ad1075.add ((x7_3).toNat * 3)).off + 1, none⟩ = some (.string ((rd_T32 l0 x7_3).f1)) ∧ w'.cell? ⟨(ad1075.add ((x7_3).toNat * 3)).block, (ad1075.add ((x7_3).toNat * 3)).off + 2, none⟩ = some (.bool ((rd_T32 l0 x7_3).f2))) (ds := []) (bb 0 28) (by kernel_rfl) rfl rfl ⟨(hc HB hw1081_0), (hc HB hw1081_1), (hc HB hw1081_2), (hc HB hw1082_0), (hc HB hw1082_1), (hc HB hw1082_2), (hc HB hw1087_0), (hc HB hw1087_1), (hc HB hw1087_2), (hc HB hw1088_0), (hc HB hw1088_1), (hc HB hw1088_2)⟩ (fun hHeld => ?_); refine with_tabW vellumlaw02_CodeWhole.tab11 vellumlaw02_CodeWhole.bits11 (fun HT_ HW_ => ?_)
                                      generalize wc.drew = w34 at HB hx1081_0 hx1081_1 hx1081_2 hx1082_0 hx1082_1 hx1082_2 hx1087_0 hx1087_1 hx1087_2 hx1088_0 hx1088_1 hx1088_2 hHeld ⊢
                                      refine pu HT_ 0 (some 45) (bb 1 28) ?_
                                      refine pu HT_ 1 (some 46) (bb 2 28) ?_
                                      refine pu HT_ 2 (some 47) (bb 3 28) ?_
                                      refine pu HT_ 4 (some 49) (bs 28 23) ?_
                                      refine pu HT_ 5 (some 50) (bs 28 55) ?_
                                      refine pu HT_ 6 (some 51) (bs 28 119) ?_
                                      refine pu HT_ 9 (some 54) (bs 28 631) ?_
                                      refine pu HT_ 11 (some 56) (bs 28 2679) ?_
                                      refine tk HT_ HW_ hHeld 3 (some 48) (bs 28 2687) ?_
                                      refine tk HT_ HW_ hHeld 7 (some 52) (bs 28 2815) ?_
                                      refine one_ (i := 8) (N := some 53) (bs 28 3071) rfl rfl (one_of HT_.out (by kernel_rfl)) (by decide) (fun K hK => ?_)
                                      refine goes_ Tryd.func32 (by kernel_rfl) rfl #[.agg #[.string ((rd_T32 l0 x6_1).f0), .string ((rd_T32 l0 x6_1).f1), .bool ((rd_T32 l0 x6_1).f2)], .agg #[.string ((rd_T32 l0 x7_3).f0), .string ((rd_T32 l0 x7_3).f1), .bool ((rd_T32 l0 x7_3).f2)]] (by rfl) rfl rfl ar ?_
                                      with_reducible refine (code_Both.calls ((rd_T32 l0 x6_1).f0) ((rd_T32 l0 x6_1).f1) ((rd_T32 l0 x6_1).f2) ((rd_T32 l0 x7_3).f0) ((rd_T32 l0 x7_3).f1) ((rd_T32 l0 x7_3).f2) t1083 t1084 t1085 _ A25.out).mono ?_
                                      rintro e w35 ⟨rfl, hb⟩
                                      refine ⟨_, rfl, ?_⟩
                                      have n0_ := sb HB hb
                                      clear HB
                                      have HB := n0_
                                      clear n0_
                                      (try clear hb)
                                      (try clear hb2)
                                      (try clear hk)
                                      (try clear hi)
                                      refine hK.out _ _ ⟨(hc HB hw1081_0), (hc HB hw1081_1), (hc HB hw1081_2), (hc HB hw1082_0), (hc HB hw1082_1), (hc HB hw1082_2), (hc HB hw1087_0), (hc HB hw1087_1), (hc HB hw1087_2), (hc HB hw1088_0), (hc HB hw1088_1), (hc HB hw1088_2)⟩ (fun hHeld => ?_)
                                      clear hK K
                                      refine norm_ (a' := ?_) ?_ ?_
                                      rotate_left
                                      · show Act.put _ (some 53) _ = _
                                        simp only [Act.put, List.setIfInBounds_toArray, List.set_cons_zero, List.set_cons_succ, i64_w, i32_w]
                                        rfl
                                      refine one_ (i := 10) (N := some 55) (bb 12 28) rfl rfl (one_of HT_.out (by kernel_rfl)) (by decide) (fun K hK => ?_)
                                      refine goes_ Tryd.func28 (by kernel_rfl) rfl #[.agg #[.string t1083, .string t1084, .bool t1085], .string a1] (by rfl) rfl rfl ar ?_
                                      with_reducible refine (code_Has.calls t1083 t1084 t1085 a1 t1086 _ A26.out).mono ?_
                                      rintro e w36 ⟨rfl, hb⟩
                                      refine ⟨_, rfl, ?_⟩
                                      have n0_ := sb HB hb
                                      clear HB
                                      have HB := n0_
                                      clear n0_
                                      (try clear hb)
                                      (try clear hb2)
                                      (try clear hk)
                                      (try clear hi)
                                      refine hK.out _ _ ⟨(hc HB hw1081_0), (hc HB hw1081_1), (hc HB hw1081_2), (hc HB hw1082_0), (hc HB hw1082_1), (hc HB hw1082_2), (hc HB hw1087_0), (hc HB hw1087_1), (hc HB hw1087_2), (hc HB hw1088_0), (hc HB hw1088_1), (hc HB hw1088_2)⟩ (fun hHeld => ?_)
                                      clear hK K
                                      refine norm_ (a' := ?_) ?_ ?_
                                      rotate_left
                                      · show Act.put _ (some 55) _ = _
                                        simp only [Act.put, List.setIfInBounds_toArray, List.set_cons_zero, List.set_cons_succ, i64_w, i32_w]
                                        rfl
                                      refine pu HT_ 12 (some 57) (bb 13 28) ?_
                                      refine pu HT_ 13 (some 58) (bb 14 28) ?_
                                      refine pu HT_ 14 (some 59) (bb 15 28) ?_
                                      refine pu HT_ 15 (some 60) (bb 16 28) ?_
                                      refine pu HT_ 16 (some 61) (bb 17 28) ?_
                                      refine pu HT_ 17 (some 62) (bb 18 28) ?_
                                      refine pu HT_ 18 (some 63) (bb 19 28) ?_
                                      refine pu HT_ 20 (some 65) (bs 28 1572863) ?_
                                      refine pu HT_ 21 (some 66) (bs 28 3670015) ?_
                                      refine pu HT_ 22 (some 67) (bs 28 7864319) ?_
                                      refine tk HT_ HW_ hHeld 19 (some 64) (bb 23 28) ?_
                                      refine tk HT_ HW_ hHeld 23 (some 68) (bb 24 28) ?_
                                      refine one_ (i := 24) (N := some 69) (bb 25 28) rfl rfl (one_of HT_.out (by kernel_rfl)) (by decide) (fun K hK => ?_)
                                      refine goes_ Tryd.func34 (by kernel_rfl) rfl #[.agg #[.string ((rd_T32 l0 x6_1).f0), .string ((rd_T32 l0 x6_1).f1), .bool ((rd_T32 l0 x6_1).f2)], .agg #[.string ((rd_T32 l0 x7_3).f0), .string ((rd_T32 l0 x7_3).f1), .bool ((rd_T32 l0 x7_3).f2)]] (by rfl) rfl rfl ar ?_
                                      with_reducible refine (code_Meet.calls ((rd_T32 l0 x6_1).f0) ((rd_T32 l0 x6_1).f1) ((rd_T32 l0 x6_1).f2) ((rd_T32 l0 x7_3).f0) ((rd_T32 l0 x7_3).f1) ((rd_T32 l0 x7_3).f2) true _ A32.out).mono ?_
                                      rintro e w37 ⟨rfl, hb⟩
                                      refine ⟨_, rfl, ?_⟩
                                      have n0_ := sb HB hb
                                      clear HB
                                      have HB := n0_
                                      clear n0_
                                      (try clear hb)
                                      (try clear hb2)
                                      (try clear hk)
                                      (try clear hi)
                                      refine hK.out _ _ ⟨(hc HB hw1081_0), (hc HB hw1081_1), (hc HB hw1081_2), (hc HB hw1082_0), (hc HB hw1082_1), (hc HB hw1082_2), (hc HB hw1087_0), (hc HB hw1087_1), (hc HB hw1087_2), (hc HB hw1088_0), (hc HB hw1088_1), (hc HB hw1088_2)⟩ (fun hHeld => ?_)
                                      clear hK K
                                      refine norm_ (a' := ?_) ?_ ?_
                                      rotate_left
                                      · show Act.put _ (some 69) _ = _
                                        simp only [Act.put, List.setIfInBounds_toArray, List.set_cons_zero, List.set_cons_succ, i64_w, i32_w]
                                        rfl
                                      refine pu HT_ 25 (some 70) (bb 26 28) ?_
                                      refine pu HT_ 26 (some 71) (bb 27 28) ?_
                                      refine pu HT_ 27 (some 72) (bb 28 28) ?_
                                      refine done_ (done_of HT_.out (by kernel_rfl)) ?_
                                      try go_wp2
                                      go_roundg kj9
                                      case measure => have := HK1.out; have := HJ5.out; have := HK3.out; have := HJ9.out; omega
                                      case rel => exact ⟨(wrap64 (x7_3 + 1)), eb, H', ⟨by have := HK1.out; have := HJ5.out; have := HK3.out; have := HJ9.out; omega⟩, ⟨bl HB⟩⟩
                                    · replace c33 := Bool.eq_false_iff.mpr c33
                                      subst c33
                                      have H1 : (some false) = some r := by rw [if_neg (show ¬ (false = true) by decide)] at H; exact H
                                      clear H
                                      have H := H1
                                      clear H1
                                      obtain rfl := Option.some.inj H
                                      try go_wp2
                                      have n0_ := am (below_drew1 HB.out)
                                      clear HB
                                      have HB := n0_
                                      clear n0_
                                      have p1081 : 0 ≤ (x6_1 : Int) := oda
                                      have q1081 : x6_1 < (l0.length : Int) := oda
                                      obtain ⟨ad1081, e1081, hx1081_0, hx1081_1, hx1081_2⟩ := at_T32 HR0.out x6_1 p1081 q1081
                                      have hw1081_2 := hx1081_2
                                      have hw1081_1 := hx1081_1
                                      have hw1081_0 := hx1081_0
                                      obtain rfl : ad1075 = ad1081 := (by injection e1081)
                                      replace hx1081_0 := hc HB hx1081_0
                                      replace hx1081_1 := hc HB hx1081_1
                                      replace hx1081_2 := hc HB hx1081_2
                                      replace p1081 := eq_true p1081
                                      replace q1081 := eq_true q1081
                                      have p1082 : 0 ≤ (x7_3 : Int) := oda
                                      have q1082 : x7_3 < (l0.length : Int) := oda
                                      obtain ⟨ad1082, e1082, hx1082_0, hx1082_1, hx1082_2⟩ := at_T32 HR0.out x7_3 p1082 q1082
                                      have hw1082_2 := hx1082_2
                                      have hw1082_1 := hx1082_1
                                      have hw1082_0 := hx1082_0
                                      obtain rfl : ad1075 = ad1082 := (by injection e1082)
                                      replace hx1082_0 := hc HB hx1082_0
                                      replace hx1082_1 := hc HB hx1082_1
                                      replace hx1082_2 := hc HB hx1082_2
                                      replace p1082 := eq_true p1082
                                      replace q1082 := eq_true q1082
                                      have p1087 : 0 ≤ (x6_1 : Int) := oda
                                      have q1087 : x6_1 < (l0.length : Int) := oda
                                      obtain ⟨ad1087, e1087, hx1087_0, hx1087_1, hx1087_2⟩ := at_T32 HR0.out x6_1 p1087 q1087
                                      have hw1087_2 := hx1087_2
                                      have hw1087_1 := hx1087_1
                                      have hw1087_0 := hx1087_0
                                      obtain rfl : ad1075 = ad1087 := (by injection e1087)
                                      replace hx1087_0 := hc HB hx1087_0
                                      replace hx1087_1 := hc HB hx1087_1
                                      replace hx1087_2 := hc HB hx1087_2
                                      replace p1087 := eq_true p1087
                                      replace q1087 := eq_true q1087
                                      have p1088 : 0 ≤ (x7_3 : Int) := oda
                                      have q1088 : x7_3 < (l0.length : Int) := oda
                                      obtain ⟨ad1088, e1088, hx1088_0, hx1088_1, hx1088_2⟩ := at_T32 HR0.out x7_3 p1088 q1088
                                      have hw1088_2 := hx1088_2
                                      have hw1088_1 := hx1088_1
                                      have hw1088_0 := hx1088_0
                                      obtain rfl : ad1075 = ad1088 := (by injection e1088)
                                      replace hx1088_0 := hc HB hx1088_0
                                      replace hx1088_1 := hc HB hx1088_1
                                      replace hx1088_2 := hc HB hx1088_2
                                      replace p1088 := eq_true p1088
                                      replace q1088 := eq_true q1088
                                      refine start_ (n := 28) (S := fun w' => w'.cell? (ad1075.add ((x6_1).toNat * 3)) = some (.string ((rd_T32 l0 x6_1).f0)) ∧ w'.cell? ⟨(ad1075.add ((x6_1).toNat * 3)).block, (ad1075.add ((x6_1).toNat * 3)).off + 1, none⟩ = some (.string ((rd_T32 l0 x6_1).f1)) ∧ w'.cell? ⟨(ad1075.add ((x6_1).toNat * 3)).block, (ad1075.add ((x6_1).toNat * 3)).off + 2, none⟩ = some (.bool ((rd_T32 l0 x6_1).f2)) ∧ w'.cell? (ad1075.add ((x7_3).toNat * 3)) = some (.string ((rd_T32 l0 x7_3).f0)) ∧ w'.cell? ⟨(ad1075.add ((x7_3).toNat * 3)).block, (ad1075.add ((x7_3).toNat * 3)).off + 1, none⟩ = some (.string ((rd_T32 l0 x7_3).f1)) ∧ w'.cell? ⟨(ad1075.add ((x7_3).toNat * 3)).block, (ad1075.add ((x7_3).toNat * 3)).off + 2, none⟩ = some (.bool ((rd_T32 l0 x7_3).f2)) ∧ w'.cell? (ad1075.add ((x6_1).toNat * 3)) = some (.string ((rd_T32 l0 x6_1).f0)) ∧ w'.cell? ⟨(ad1075.add ((x6_1).toNat * 3)).block, (ad1075.add ((x6_1).toNat * 3)).off + 1, none⟩ = some (.string ((rd_T32 l0 x6_1).f1)) ∧ w'.cell? ⟨(ad1075.add ((x6_1).toNat * 3)).block, (ad1075.add ((x6_1).toNat * 3)).off + 2, none⟩ = some (.bool ((rd_T32 l0 x6_1).f2)) ∧ w'.cell? (ad1075.add ((x7_3).toNat * 3)) = some (.string ((rd_T32 l0 x7_3).f0)) ∧ w'.cell? ⟨(ad1075.add ((x7_3).toNat * 3)).block, (ad1075.add ((x7_3).toNat * 3)).off + 1, none⟩ = some (.string ((rd_T32 l0 x7_3).f1)) ∧ w'.cell? ⟨(ad1075.add ((x7_3).toNat * 3)).block, (ad1075.add ((x7_3).toNat * 3)).off + 2, none⟩ = some (.bool ((rd_T32 l0 x7_3).f2))) (ds := []) (bb 0 28) (by kernel_rfl) rfl rfl ⟨(hc HB hw1081_0), (hc HB hw1081_1), (hc HB hw1081_2), (hc HB hw1082_0), (hc HB hw1082_1), (hc HB hw1082_2), (hc HB hw1087_0), (hc HB hw1087_1), (hc HB hw1087_2), (hc HB hw1088_0), (hc HB hw1088_1), (hc HB hw1088_2)⟩ (fun hHeld => ?_); refine with_tabW vellumlaw02_CodeWhole.tab11 vellumlaw02_CodeWhole.bits11 (fun HT_ HW_ => ?_)
                                      generalize wc.drew = w38 at HB hx1081_0 hx1081_1 hx1081_2 hx1082_0 hx1082_1 hx1082_2 hx1087_0 hx1087_1 hx1087_2 hx1088_0 hx1088_1 hx1088_2 hHeld ⊢
                                      refine pu HT_ 0 (some 45) (bb 1 28) ?_
                                      refine pu HT_ 1 (some 46) (bb 2 28) ?_
                                      refine pu HT_ 2 (some 47) (bb 3 28) ?_
                                      refine pu HT_ 4 (some 49) (bs 28 23) ?_
                                      refine pu HT_ 5 (some 50) (bs 28 55) ?_
                                      refine pu HT_ 6 (some 51) (bs 28 119) ?_
                                      refine pu HT_ 9 (some 54) (bs 28 631) ?_
                                      refine pu HT_ 11 (some 56) (bs 28 2679) ?_
                                      refine tk HT_ HW_ hHeld 3 (some 48) (bs 28 2687) ?_
                                      refine tk HT_ HW_ hHeld 7 (some 52) (bs 28 2815) ?_
                                      refine one_ (i := 8) (N := some 53) (bs 28 3071) rfl rfl (one_of HT_.out (by kernel_rfl)) (by decide) (fun K hK => ?_)
                                      refine goes_ Tryd.func32 (by kernel_rfl) rfl #[.agg #[.string ((rd_T32 l0 x6_1).f0), .string ((rd_T32 l0 x6_1).f1), .bool ((rd_T32 l0 x6_1).f2)], .agg #[.string ((rd_T32 l0 x7_3).f0), .string ((rd_T32 l0 x7_3).f1), .bool ((rd_T32 l0 x7_3).f2)]] (by rfl) rfl rfl ar ?_
                                      with_reducible refine (code_Both.calls ((rd_T32 l0 x6_1).f0) ((rd_T32 l0 x6_1).f1) ((rd_T32 l0 x6_1).f2) ((rd_T32 l0 x7_3).f0) ((rd_T32 l0 x7_3).f1) ((rd_T32 l0 x7_3).f2) t1083 t1084 t1085 _ A25.out).mono ?_
                                      rintro e w39 ⟨rfl, hb⟩
                                      refine ⟨_, rfl, ?_⟩
                                      have n0_ := sb HB hb
                                      clear HB
                                      have HB := n0_
                                      clear n0_
                                      (try clear hb)
                                      (try clear hb2)
                                      (try clear hk)
                                      (try clear hi)
                                      refine hK.out _ _ ⟨(hc HB hw1081_0), (hc HB hw1081_1), (hc HB hw1081_2), (hc HB hw1082_0), (hc HB hw1082_1), (hc HB hw1082_2), (hc HB hw1087_0), (hc HB hw1087_1), (hc HB hw1087_2), (hc HB hw1088_0), (hc HB hw1088_1), (hc HB hw1088_2)⟩ (fun hHeld => ?_)
                                      clear hK K
                                      refine norm_ (a' := ?_) ?_ ?_
                                      rotate_left
                                      · show Act.put _ (some 53) _ = _
                                        simp only [Act.put, List.setIfInBounds_toArray, List.set_cons_zero, List.set_cons_succ, i64_w, i32_w]
                                        rfl
                                      refine one_ (i := 10) (N := some 55) (bb 12 28) rfl rfl (one_of HT_.out (by kernel_rfl)) (by decide) (fun K hK => ?_)
                                      refine goes_ Tryd.func28 (by kernel_rfl) rfl #[.agg #[.string t1083, .string t1084, .bool t1085], .string a1] (by rfl) rfl rfl ar ?_
                                      with_reducible refine (code_Has.calls t1083 t1084 t1085 a1 t1086 _ A26.out).mono ?_
                                      rintro e w40 ⟨rfl, hb⟩
                                      refine ⟨_, rfl, ?_⟩
                                      have n0_ := sb HB hb
                                      clear HB
                                      have HB := n0_
                                      clear n0_
                                      (try clear hb)
                                      (try clear hb2)
                                      (try clear hk)
                                      (try clear hi)
                                      refine hK.out _ _ ⟨(hc HB hw1081_0), (hc HB hw1081_1), (hc HB hw1081_2), (hc HB hw1082_0), (hc HB hw1082_1), (hc HB hw1082_2), (hc HB hw1087_0), (hc HB hw1087_1), (hc HB hw1087_2), (hc HB hw1088_0), (hc HB hw1088_1), (hc HB hw1088_2)⟩ (fun hHeld => ?_)
                                      clear hK K
                                      refine norm_ (a' := ?_) ?_ ?_
                                      rotate_left
                                      · show Act.put _ (some 55) _ = _
                                        simp only [Act.put, List.setIfInBounds_toArray, List.set_cons_zero, List.set_cons_succ, i64_w, i32_w]
                                        rfl
                                      refine pu HT_ 12 (some 57) (bb 13 28) ?_
                                      refine pu HT_ 13 (some 58) (bb 14 28) ?_
                                      refine pu HT_ 14 (some 59) (bb 15 28) ?_
                                      refine pu HT_ 15 (some 60) (bb 16 28) ?_
                                      refine pu HT_ 16 (some 61) (bb 17 28) ?_
                                      refine pu HT_ 17 (some 62) (bb 18 28) ?_
                                      refine pu HT_ 18 (some 63) (bb 19 28) ?_
                                      refine pu HT_ 20 (some 65) (bs 28 1572863) ?_
                                      refine pu HT_ 21 (some 66) (bs 28 3670015) ?_
                                      refine pu HT_ 22 (some 67) (bs 28 7864319) ?_
                                      refine tk HT_ HW_ hHeld 19 (some 64) (bb 23 28) ?_
                                      refine tk HT_ HW_ hHeld 23 (some 68) (bb 24 28) ?_
                                      refine one_ (i := 24) (N := some 69) (bb 25 28) rfl rfl (one_of HT_.out (by kernel_rfl)) (by decide) (fun K hK => ?_)
                                      refine goes_ Tryd.func34 (by kernel_rfl) rfl #[.agg #[.string ((rd_T32 l0 x6_1).f0), .string ((rd_T32 l0 x6_1).f1), .bool ((rd_T32 l0 x6_1).f2)], .agg #[.string ((rd_T32 l0 x7_3).f0), .string ((rd_T32 l0 x7_3).f1), .bool ((rd_T32 l0 x7_3).f2)]] (by rfl) rfl rfl ar ?_
                                      with_reducible refine (code_Meet.calls ((rd_T32 l0 x6_1).f0) ((rd_T32 l0 x6_1).f1) ((rd_T32 l0 x6_1).f2) ((rd_T32 l0 x7_3).f0) ((rd_T32 l0 x7_3).f1) ((rd_T32 l0 x7_3).f2) false _ A32.out).mono ?_
                                      rintro e w41 ⟨rfl, hb⟩
                                      refine ⟨_, rfl, ?_⟩
                                      have n0_ := sb HB hb
                                      clear HB
                                      have HB := n0_
                                      clear n0_
                                      (try clear hb)
                                      (try clear hb2)
                                      (try clear hk)
                                      (try clear hi)
                                      refine hK.out _ _ ⟨(hc HB hw1081_0), (hc HB hw1081_1), (hc HB hw1081_2), (hc HB hw1082_0), (hc HB hw1082_1), (hc HB hw1082_2), (hc HB hw1087_0), (hc HB hw1087_1), (hc HB hw1087_2), (hc HB hw1088_0), (hc HB hw1088_1), (hc HB hw1088_2)⟩ (fun hHeld => ?_)
                                      clear hK K
                                      refine norm_ (a' := ?_) ?_ ?_
                                      rotate_left
                                      · show Act.put _ (some 69) _ = _
                                        simp only [Act.put, List.setIfInBounds_toArray, List.set_cons_zero, List.set_cons_succ, i64_w, i32_w]
                                        rfl
                                      refine pu HT_ 25 (some 70) (bb 26 28) ?_
                                      refine pu HT_ 26 (some 71) (bb 27 28) ?_
                                      refine pu HT_ 27 (some 72) (bb 28 28) ?_
                                      refine done_ (done_of HT_.out (by kernel_rfl)) ?_
                                      try go_wp2
                                      go_ret
                                      exact ⟨er, bl HB⟩
                                  · replace c31 := Bool.eq_false_iff.mpr c31
                                    subst c31
                                    have H1 : (vellumlaw02_CodeWhole.l1 kj9 l0 a1 x5_5 x6_1 (wrap64 (x7_3 + 1))) = some r := by rw [if_neg (show ¬ (false = true) by decide)] at H; exact H
                                    clear H
                                    have H := H1
                                    clear H1
                                    have H' := am H
                                    clear H
                                    try go_wp2
                                    have n0_ := am (below_drew1 HB.out)
                                    clear HB
                                    have HB := n0_
                                    clear n0_
                                    have p1081 : 0 ≤ (x6_1 : Int) := oda
                                    have q1081 : x6_1 < (l0.length : Int) := oda
                                    obtain ⟨ad1081, e1081, hx1081_0, hx1081_1, hx1081_2⟩ := at_T32 HR0.out x6_1 p1081 q1081
                                    have hw1081_2 := hx1081_2
                                    have hw1081_1 := hx1081_1
                                    have hw1081_0 := hx1081_0
                                    obtain rfl : ad1075 = ad1081 := (by injection e1081)
                                    replace hx1081_0 := hc HB hx1081_0
                                    replace hx1081_1 := hc HB hx1081_1
                                    replace hx1081_2 := hc HB hx1081_2
                                    replace p1081 := eq_true p1081
                                    replace q1081 := eq_true q1081
                                    have p1082 : 0 ≤ (x7_3 : Int) := oda
                                    have q1082 : x7_3 < (l0.length : Int) := oda
                                    obtain ⟨ad1082, e1082, hx1082_0, hx1082_1, hx1082_2⟩ := at_T32 HR0.out x7_3 p1082 q1082
                                    have hw1082_2 := hx1082_2
                                    have hw1082_1 := hx1082_1
                                    have hw1082_0 := hx1082_0
                                    obtain rfl : ad1075 = ad1082 := (by injection e1082)
                                    replace hx1082_0 := hc HB hx1082_0
                                    replace hx1082_1 := hc HB hx1082_1
                                    replace hx1082_2 := hc HB hx1082_2
                                    replace p1082 := eq_true p1082
                                    replace q1082 := eq_true q1082
                                    refine start_ (n := 28) (S := fun w' => w'.cell? (ad1075.add ((x6_1).toNat * 3)) = some (.string ((rd_T32 l0 x6_1).f0)) ∧ w'.cell? ⟨(ad1075.add ((x6_1).toNat * 3)).block, (ad1075.add ((x6_1).toNat * 3)).off + 1, none⟩ = some (.string ((rd_T32 l0 x6_1).f1)) ∧ w'.cell? ⟨(ad1075.add ((x6_1).toNat * 3)).block, (ad1075.add ((x6_1).toNat * 3)).off + 2, none⟩ = some (.bool ((rd_T32 l0 x6_1).f2)) ∧ w'.cell? (ad1075.add ((x7_3).toNat * 3)) = some (.string ((rd_T32 l0 x7_3).f0)) ∧ w'.cell? ⟨(ad1075.add ((x7_3).toNat * 3)).block, (ad1075.add ((x7_3).toNat * 3)).off + 1, none⟩ = some (.string ((rd_T32 l0 x7_3).f1)) ∧ w'.cell? ⟨(ad1075.add ((x7_3).toNat * 3)).block, (ad1075.add ((x7_3).toNat * 3)).off + 2, none⟩ = some (.bool ((rd_T32 l0 x7_3).f2))) (ds := []) (bb 0 28) (by kernel_rfl) rfl rfl ⟨(hc HB hw1081_0), (hc HB hw1081_1), (hc HB hw1081_2), (hc HB hw1082_0), (hc HB hw1082_1), (hc HB hw1082_2)⟩ (fun hHeld => ?_); refine with_tabW vellumlaw02_CodeWhole.tab11 vellumlaw02_CodeWhole.bits11 (fun HT_ HW_ => ?_)
                                    generalize wc.drew = w42 at HB hx1081_0 hx1081_1 hx1081_2 hx1082_0 hx1082_1 hx1082_2 hHeld ⊢
                                    refine pu HT_ 0 (some 45) (bb 1 28) ?_
                                    refine pu HT_ 1 (some 46) (bb 2 28) ?_
                                    refine pu HT_ 2 (some 47) (bb 3 28) ?_
                                    refine pu HT_ 4 (some 49) (bs 28 23) ?_
                                    refine pu HT_ 5 (some 50) (bs 28 55) ?_
                                    refine pu HT_ 6 (some 51) (bs 28 119) ?_
                                    refine pu HT_ 9 (some 54) (bs 28 631) ?_
                                    refine pu HT_ 11 (some 56) (bs 28 2679) ?_
                                    refine tk HT_ HW_ hHeld 3 (some 48) (bs 28 2687) ?_
                                    refine tk HT_ HW_ hHeld 7 (some 52) (bs 28 2815) ?_
                                    refine one_ (i := 8) (N := some 53) (bs 28 3071) rfl rfl (one_of HT_.out (by kernel_rfl)) (by decide) (fun K hK => ?_)
                                    refine goes_ Tryd.func32 (by kernel_rfl) rfl #[.agg #[.string ((rd_T32 l0 x6_1).f0), .string ((rd_T32 l0 x6_1).f1), .bool ((rd_T32 l0 x6_1).f2)], .agg #[.string ((rd_T32 l0 x7_3).f0), .string ((rd_T32 l0 x7_3).f1), .bool ((rd_T32 l0 x7_3).f2)]] (by rfl) rfl rfl ar ?_
                                    with_reducible refine (code_Both.calls ((rd_T32 l0 x6_1).f0) ((rd_T32 l0 x6_1).f1) ((rd_T32 l0 x6_1).f2) ((rd_T32 l0 x7_3).f0) ((rd_T32 l0 x7_3).f1) ((rd_T32 l0 x7_3).f2) t1083 t1084 t1085 _ A25.out).mono ?_
                                    rintro e w43 ⟨rfl, hb⟩
                                    refine ⟨_, rfl, ?_⟩
                                    have n0_ := sb HB hb
                                    clear HB
                                    have HB := n0_
                                    clear n0_
                                    (try clear hb)
                                    (try clear hb2)
                                    (try clear hk)
                                    (try clear hi)
                                    refine hK.out _ _ ⟨(hc HB hw1081_0), (hc HB hw1081_1), (hc HB hw1081_2), (hc HB hw1082_0), (hc HB hw1082_1), (hc HB hw1082_2)⟩ (fun hHeld => ?_)
                                    clear hK K
                                    refine norm_ (a' := ?_) ?_ ?_
                                    rotate_left
                                    · show Act.put _ (some 53) _ = _
                                      simp only [Act.put, List.setIfInBounds_toArray, List.set_cons_zero, List.set_cons_succ, i64_w, i32_w]
                                      rfl
                                    refine one_ (i := 10) (N := some 55) (bb 12 28) rfl rfl (one_of HT_.out (by kernel_rfl)) (by decide) (fun K hK => ?_)
                                    refine goes_ Tryd.func28 (by kernel_rfl) rfl #[.agg #[.string t1083, .string t1084, .bool t1085], .string a1] (by rfl) rfl rfl ar ?_
                                    with_reducible refine (code_Has.calls t1083 t1084 t1085 a1 t1086 _ A26.out).mono ?_
                                    rintro e w44 ⟨rfl, hb⟩
                                    refine ⟨_, rfl, ?_⟩
                                    have n0_ := sb HB hb
                                    clear HB
                                    have HB := n0_
                                    clear n0_
                                    (try clear hb)
                                    (try clear hb2)
                                    (try clear hk)
                                    (try clear hi)
                                    refine hK.out _ _ ⟨(hc HB hw1081_0), (hc HB hw1081_1), (hc HB hw1081_2), (hc HB hw1082_0), (hc HB hw1082_1), (hc HB hw1082_2)⟩ (fun hHeld => ?_)
                                    clear hK K
                                    refine norm_ (a' := ?_) ?_ ?_
                                    rotate_left
                                    · show Act.put _ (some 55) _ = _
                                      simp only [Act.put, List.setIfInBounds_toArray, List.set_cons_zero, List.set_cons_succ, i64_w, i32_w]
                                      rfl
                                    refine pu HT_ 12 (some 57) (bb 13 28) ?_
                                    refine pu HT_ 13 (some 58) (bb 14 28) ?_
                                    refine pu HT_ 14 (some 59) (bb 15 28) ?_
                                    refine pu HT_ 15 (some 60) (bb 16 28) ?_
                                    refine pure_ (i := 16) (N := some 61) (v := undef) (a' := ?_) (bb 17 28) rfl rfl (any_of HT_.out (by kernel_rfl)) (fun _ _ _ h => h) (Or.inr ⟨by rfl, rfl⟩) ?_ ?_
                                    rotate_left
                                    · simp only [Act.put, List.setIfInBounds_toArray, List.set_cons_zero, List.set_cons_succ, i64_w, i32_w]
                                      rfl
                                    refine pure_ (i := 17) (N := some 62) (v := undef) (a' := ?_) (bb 18 28) rfl rfl (any_of HT_.out (by kernel_rfl)) (fun _ _ _ h => h) (Or.inr ⟨by rfl, rfl⟩) ?_ ?_
                                    rotate_left
                                    · simp only [Act.put, List.setIfInBounds_toArray, List.set_cons_zero, List.set_cons_succ, i64_w, i32_w]
                                      rfl
                                    refine pure_ (i := 18) (N := some 63) (v := undef) (a' := ?_) (bb 19 28) rfl rfl (any_of HT_.out (by kernel_rfl)) (fun _ _ _ h => h) (Or.inr ⟨by rfl, rfl⟩) ?_ ?_
                                    rotate_left
                                    · simp only [Act.put, List.setIfInBounds_toArray, List.set_cons_zero, List.set_cons_succ, i64_w, i32_w]
                                      rfl
                                    refine pure_ (i := 19) (N := some 64) (v := undef) (a' := ?_) (bb 20 28) rfl rfl (any_of HT_.out (by kernel_rfl)) (fun _ _ _ h => h) (Or.inr ⟨by rfl, rfl⟩) ?_ ?_
                                    rotate_left
                                    · simp only [Act.put, List.setIfInBounds_toArray, List.set_cons_zero, List.set_cons_succ, i64_w, i32_w]
                                      rfl
                                    refine pure_ (i := 20) (N := some 65) (v := undef) (a' := ?_) (bb 21 28) rfl rfl (any_of HT_.out (by kernel_rfl)) (fun _ _ _ h => h) (Or.inr ⟨by rfl, rfl⟩) ?_ ?_
                                    rotate_left
                                    · simp only [Act.put, List.setIfInBounds_toArray, List.set_cons_zero, List.set_cons_succ, i64_w, i32_w]
                                      rfl
                                    refine pure_ (i := 21) (N := some 66) (v := undef) (a' := ?_) (bb 22 28) rfl rfl (any_of HT_.out (by kernel_rfl)) (fun _ _ _ h => h) (Or.inr ⟨by rfl, rfl⟩) ?_ ?_
                                    rotate_left
                                    · simp only [Act.put, List.setIfInBounds_toArray, List.set_cons_zero, List.set_cons_succ, i64_w, i32_w]
                                      rfl
                                    refine pure_ (i := 22) (N := some 67) (v := undef) (a' := ?_) (bb 23 28) rfl rfl (any_of HT_.out (by kernel_rfl)) (fun _ _ _ h => h) (Or.inr ⟨by rfl, rfl⟩) ?_ ?_
                                    rotate_left
                                    · simp only [Act.put, List.setIfInBounds_toArray, List.set_cons_zero, List.set_cons_succ, i64_w, i32_w]
                                      rfl
                                    refine pure_ (i := 23) (N := some 68) (v := undef) (a' := ?_) (bb 24 28) rfl rfl (any_of HT_.out (by kernel_rfl)) (fun _ _ _ h => h) (Or.inr ⟨by rfl, rfl⟩) ?_ ?_
                                    rotate_left
                                    · simp only [Act.put, List.setIfInBounds_toArray, List.set_cons_zero, List.set_cons_succ, i64_w, i32_w]
                                      rfl
                                    refine pure_ (i := 24) (N := some 69) (v := undef) (a' := ?_) (bb 25 28) rfl rfl (any_of HT_.out (by kernel_rfl)) (fun _ _ _ h => h) (Or.inr ⟨by rfl, rfl⟩) ?_ ?_
                                    rotate_left
                                    · simp only [Act.put, List.setIfInBounds_toArray, List.set_cons_zero, List.set_cons_succ, i64_w, i32_w]
                                      rfl
                                    refine pure_ (i := 25) (N := some 70) (v := undef) (a' := ?_) (bb 26 28) rfl rfl (any_of HT_.out (by kernel_rfl)) (fun _ _ _ h => h) (Or.inr ⟨by rfl, rfl⟩) ?_ ?_
                                    rotate_left
                                    · simp only [Act.put, List.setIfInBounds_toArray, List.set_cons_zero, List.set_cons_succ, i64_w, i32_w]
                                      rfl
                                    refine pu HT_ 26 (some 71) (bb 27 28) ?_
                                    refine pu HT_ 27 (some 72) (bb 28 28) ?_
                                    refine done_ (done_of HT_.out (by kernel_rfl)) ?_
                                    try go_wp2
                                    go_roundg kj9
                                    case measure => have := HK1.out; have := HJ5.out; have := HK3.out; have := HJ9.out; omega
                                    case rel => exact ⟨(wrap64 (x7_3 + 1)), eb, H', ⟨by have := HK1.out; have := HJ5.out; have := HK3.out; have := HJ9.out; omega⟩, ⟨bl HB⟩⟩
                              · rw [if_neg c24] at H
                                exact absurd H (by simp)
                            · rw [if_neg c23] at H
                              exact absurd H (by simp)
                          · rw [if_neg c22] at H
                            exact absurd H (by simp)
                        · rw [if_neg c21] at H
                          exact absurd H (by simp)
                  · rw [if_neg c9] at H
                    have c9b0 : decide (x7_3 < x6_1) = false := decide_eq_false c9
                    clear c9
                    have H' := am H
                    clear H
                    go_wp2
                    go_roundg k3
                    case measure => have := HK1.out; have := HJ5.out; have := HK3.out; omega
                    case rel => exact ⟨(x5_5), (wrap64 (x6_1 + 1)), eb, eb, H', ⟨by have := HK1.out; have := HJ5.out; have := HK3.out; omega⟩, ⟨bl HB⟩⟩
        · rw [if_neg c4] at H
          exact absurd H (by simp)
      · rw [if_neg c3] at H
        have c3b0 : decide (x6_1 < (l0.length : Int)) = false := decide_eq_false c3
        clear c3
        replace H := Option.bind_eq_some_iff.mp H
        obtain ⟨t1090, A450, H⟩ := H
        replace H : (vellumlaw02_CodeWhole.l2 k1 a1 x5_1 t1090 0 0) = some r := H
        have A45 := am A450
        clear A450
        have H' := am H
        clear H
        go_wp2_with (first | ((with_reducible refine gate_callee (f := 49) rfl ?_); refine goesL_ (some 74) rfl rfl Tryd.func49 (by kernel_rfl) rfl #[.slice A0 l0.length c0] rfl ar ?_; (with_reducible refine (code_Union.calls _ _ l0 t1090 _ (Kd.cb HR0 HB) HC0.out A45.out).mono ?_); rintro e w46 ⟨v1091, rfl, ho0, hb⟩; refine ⟨_, rfl, ?_⟩; have n0_ := am (Kd.R_lower ho0 (below_size (bl HB))); have n1_ := sb HB hb; clear HB; have HO1092 := n0_; have HB := n1_; clear n0_ n1_; (try clear hb); (try clear hb2 hk hi); (try clear ho0)))
        go_loopg [10, 11] k1 (fun kq v10 v11 w' => ∃ (x10_2 : Int) (x11_2 : Int), v10 = .int .i64 x10_2 ∧ v11 = .int .i64 x11_2 ∧ Aside0 (vellumlaw02_CodeWhole.l2 kq a1 x5_1 t1090 x10_2 x11_2 = some r) ∧ Aside0 (kq ≤ k1) ∧ Aside0 (Kd.R k32 32 w' w.heap.size (fun _ => True) v1091 t1090) ∧ Aside0 (Below w.heap.size w w'))
        case atStart => exact ⟨(0), (0), eb, eb, H', ⟨Nat.le_refl _⟩, ⟨Kd.rr HO1092.out⟩, ⟨bl HB⟩⟩
        case round =>
          clear H'
          try clear p1
          try clear q1
          try clear hx1
          try clear c2
          try clear p2
          try clear c3
          try clear c3b0
          try clear c4
          try clear p6
          try clear c9
          try clear c9b0
          try clear p10
          try clear q10
          try clear hx10
          try clear c21
          try clear c22
          try clear c23
          try clear c24
          try clear c28
          try clear c31
          try clear c32
          try clear c34
          try clear hx1081_0
          try clear hx1081_1
          try clear hx1081_2
          try clear hx1082_0
          try clear hx1082_1
          try clear hx1082_2
          try clear hx1087_0
          try clear hx1087_1
          try clear hx1087_2
          try clear hx1088_0
          try clear hx1088_1
          try clear hx1088_2
          try clear p1081
          try clear p1082
          try clear p1087
          try clear p1088
          try clear q1081
          try clear q1082
          try clear q1087
          try clear q1088
          obtain ⟨x10_2, x11_2, rfl, rfl, HA, HK2, HO_9, HB⟩ := hrel
          cases gk with
          | zero => exact absurd HA.out (by simp [vellumlaw02_CodeWhole.l2])
          | succ k2 =>
            have H := HA.out
            clear HA
            simp only [vellumlaw02_CodeWhole.l2] at H
            by_cases c47 : x11_2 < (t1090.length : Int)
            · rw [if_pos c47] at H
              have c47b0 : decide (x11_2 < (t1090.length : Int)) = true := decide_eq_true c47
              clear c47
              by_cases c48 : 0 ≤ x11_2
              · rw [if_pos c48] at H
                have c48b0 : decide (0 ≤ x11_2) = true := decide_eq_true c48
                clear c48
                replace H := Option.bind_eq_some_iff.mp H
                obtain ⟨t1095, A490, H⟩ := H
                replace H : (if t1095 = true then ((code_Empty.f ((rd_T32 t1090 x11_2).f0) ((rd_T32 t1090 x11_2).f1) ((rd_T32 t1090 x11_2).f2)).bind fun t1097 => (if t1097 = true then (some false) else (if x11_2 > 0 then (if 0 ≤ (wrap64 (x11_2 - 1)) then (if (wrap64 (x11_2 - 1)) < (t1090.length : Int) then (if (rd_T32 t1090 (wrap64 (x11_2 - 1))).f2 = true then (some false) else (if ((Op.bytesLess (((rd_T32 t1090 (wrap64 (x11_2 - 1))).f1).toList) (((rd_T32 t1090 x11_2).f0).toList)) = true) then (vellumlaw02_CodeWhole.l2 k2 a1 x5_1 t1090 (wrap64 (x10_2 + 1)) (wrap64 (x11_2 + 1))) else (some false))) else (none)) else (none)) else (vellumlaw02_CodeWhole.l2 k2 a1 x5_1 t1090 (wrap64 (x10_2 + 1)) (wrap64 (x11_2 + 1)))))) else ((code_Empty.f ((rd_T32 t1090 x11_2).f0) ((rd_T32 t1090 x11_2).f1) ((rd_T32 t1090 x11_2).f2)).bind fun t1102 => (if t1102 = true then (some false) else (if x11_2 > 0 then (if 0 ≤ (wrap64 (x11_2 - 1)) then (if (wrap64 (x11_2 - 1)) < (t1090.length : Int) then (if (rd_T32 t1090 (wrap64 (x11_2 - 1))).f2 = true then (some false) else (if ((Op.bytesLess (((rd_T32 t1090 (wrap64 (x11_2 - 1))).f1).toList) (((rd_T32 t1090 x11_2).f0).toList)) = true) then (vellumlaw02_CodeWhole.l2 k2 a1 x5_1 t1090 x10_2 (wrap64 (x11_2 + 1))) else (some false))) else (none)) else (none)) else (vellumlaw02_CodeWhole.l2 k2 a1 x5_1 t1090 x10_2 (wrap64 (x11_2 + 1))))))) = some r := H
                have A49 := am A490
                clear A490
                by_cases c50 : t1095 = true
                · subst c50
                  have H1 : ((code_Empty.f ((rd_T32 t1090 x11_2).f0) ((rd_T32 t1090 x11_2).f1) ((rd_T32 t1090 x11_2).f2)).bind fun t1097 => (if t1097 = true then (some false) else (if x11_2 > 0 then (if 0 ≤ (wrap64 (x11_2 - 1)) then (if (wrap64 (x11_2 - 1)) < (t1090.length : Int) then (if (rd_T32 t1090 (wrap64 (x11_2 - 1))).f2 = true then (some false) else (if ((Op.bytesLess (((rd_T32 t1090 (wrap64 (x11_2 - 1))).f1).toList) (((rd_T32 t1090 x11_2).f0).toList)) = true) then (vellumlaw02_CodeWhole.l2 k2 a1 x5_1 t1090 (wrap64 (x10_2 + 1)) (wrap64 (x11_2 + 1))) else (some false))) else (none)) else (none)) else (vellumlaw02_CodeWhole.l2 k2 a1 x5_1 t1090 (wrap64 (x10_2 + 1)) (wrap64 (x11_2 + 1)))))) = some r := by rw [if_pos rfl] at H; exact H
                  clear H
                  have H := H1
                  clear H1
                  replace H := Option.bind_eq_some_iff.mp H
                  obtain ⟨t1097, A510, H⟩ := H
                  replace H : (if t1097 = true then (some false) else (if x11_2 > 0 then (if 0 ≤ (wrap64 (x11_2 - 1)) then (if (wrap64 (x11_2 - 1)) < (t1090.length : Int) then (if (rd_T32 t1090 (wrap64 (x11_2 - 1))).f2 = true then (some false) else (if ((Op.bytesLess (((rd_T32 t1090 (wrap64 (x11_2 - 1))).f1).toList) (((rd_T32 t1090 x11_2).f0).toList)) = true) then (vellumlaw02_CodeWhole.l2 k2 a1 x5_1 t1090 (wrap64 (x10_2 + 1)) (wrap64 (x11_2 + 1))) else (some false))) else (none)) else (none)) else (vellumlaw02_CodeWhole.l2 k2 a1 x5_1 t1090 (wrap64 (x10_2 + 1)) (wrap64 (x11_2 + 1))))) = some r := H
                  have A51 := am A510
                  clear A510
                  by_cases c52 : t1097 = true
                  · subst c52
                    have H1 : (some false) = some r := by rw [if_pos rfl] at H; exact H
                    clear H
                    have H := H1
                    clear H1
                    obtain rfl := Option.some.inj H
                    obtain ⟨Ao53, co53, eo53⟩ := Kd.R_slice HO_9.out
                    subst eo53
                    have p1094 : 0 ≤ (x11_2 : Int) := oda
                    have q1094 : x11_2 < (t1090.length : Int) := oda
                    obtain ⟨ad1094, e1094, hx1094_0, hx1094_1, hx1094_2⟩ := at_T32 (Kd.R_reads' HO_9.out).2.2 x11_2 p1094 q1094
                    cases e1094
                    replace p1094 := eq_true p1094
                    replace q1094 := eq_true q1094
                    try go_wp2_with (first | ((with_reducible refine gate_callee (f := 28) rfl ?_); refine goesL_ (some 86) rfl rfl Tryd.func28 (by kernel_rfl) rfl #[.agg #[.string ((rd_T32 t1090 x11_2).f0), .string ((rd_T32 t1090 x11_2).f1), .bool ((rd_T32 t1090 x11_2).f2)], .string a1] rfl ar ?_; (with_reducible refine (code_Has.calls ((rd_T32 t1090 x11_2).f0) ((rd_T32 t1090 x11_2).f1) ((rd_T32 t1090 x11_2).f2) a1 true _ A49.out).mono ?_); rintro e w54 ⟨rfl, hb⟩; refine ⟨_, rfl, ?_⟩; have n0_ := am (Kd.R_below (Kd.rr HO_9.out) hb); have n1_ := sb HB hb; clear HO_9; clear HB; have HO_9 := n0_; have HB := n1_; clear n0_ n1_; (try clear hb); (try clear hb2 hk hi)))
                    have n0_ := am (Kd.R_drew HO_9.out)
                    have n1_ := am (below_drew1 HB.out)
                    clear HO_9
                    clear HB
                    have HO_9 := n0_
                    have HB := n1_
                    clear n0_ n1_
                    have p1096 : 0 ≤ (x11_2 : Int) := oda
                    have q1096 : x11_2 < (t1090.length : Int) := oda
                    obtain ⟨ad1096, e1096, hx1096_0, hx1096_1, hx1096_2⟩ := at_T32 (Kd.R_reads' HO_9.out).2.2 x11_2 p1096 q1096
                    obtain rfl : ad1094 = ad1096 := (by injection e1096)
                    replace p1096 := eq_true p1096
                    replace q1096 := eq_true q1096
                    refine start_ (n := 31) (S := fun w' => w'.cell? (ad1094.add ((x11_2).toNat * 3)) = some (.string ((rd_T32 t1090 x11_2).f0)) ∧ w'.cell? ⟨(ad1094.add ((x11_2).toNat * 3)).block, (ad1094.add ((x11_2).toNat * 3)).off + 1, none⟩ = some (.string ((rd_T32 t1090 x11_2).f1)) ∧ w'.cell? ⟨(ad1094.add ((x11_2).toNat * 3)).block, (ad1094.add ((x11_2).toNat * 3)).off + 2, none⟩ = some (.bool ((rd_T32 t1090 x11_2).f2))) (ds := []) (bb 0 31) (by kernel_rfl) rfl rfl ⟨hx1096_0, hx1096_1, hx1096_2⟩ (fun hHeld => ?_); refine with_tabW vellumlaw02_CodeWhole.tab20 vellumlaw02_CodeWhole.bits20 (fun HT_ HW_ => ?_)
                    generalize w54.drew = w55 at HO_9 HB hx1096_0 hx1096_1 hx1096_2 hHeld ⊢
                    refine pu HT_ 0 (some 89) (bb 1 31) ?_
                    refine pu HT_ 1 (some 90) (bb 2 31) ?_
                    refine pu HT_ 2 (some 91) (bb 3 31) ?_
                    refine tk HT_ HW_ hHeld 3 (some 92) (bb 4 31) ?_
                    refine one_ (i := 4) (N := some 93) (bb 5 31) rfl rfl (one_of HT_.out (by kernel_rfl)) (by decide) (fun K hK => ?_)
                    refine goes_ Tryd.func30 (by kernel_rfl) rfl #[.agg #[.string ((rd_T32 t1090 x11_2).f0), .string ((rd_T32 t1090 x11_2).f1), .bool ((rd_T32 t1090 x11_2).f2)]] (by rfl) rfl rfl ar ?_
                    with_reducible refine (code_Empty.calls ((rd_T32 t1090 x11_2).f0) ((rd_T32 t1090 x11_2).f1) ((rd_T32 t1090 x11_2).f2) true _ A51.out).mono ?_
                    rintro e w56 ⟨rfl, hb⟩
                    have HS0_ := (hb.cell (World.block_lt_of_cell? _ _ (hHeld.1))).trans (hHeld.1)
                    have HS1_ := (hb.cell (World.block_lt_of_cell? _ _ (hHeld.2.1))).trans (hHeld.2.1)
                    have HS2_ := (hb.cell (World.block_lt_of_cell? _ _ (hHeld.2.2))).trans (hHeld.2.2)
                    refine ⟨_, rfl, ?_⟩
                    have n0_ := am (Kd.R_below (Kd.rr HO_9.out) hb)
                    have n1_ := sb HB hb
                    clear HO_9
                    clear HB
                    have HO_9 := n0_
                    have HB := n1_
                    clear n0_ n1_
                    (try clear hb)
                    (try clear hb2)
                    (try clear hk)
                    (try clear hi)
                    refine hK.out _ _ ⟨HS0_, HS1_, HS2_⟩ (fun hHeld => ?_)
                    clear hK K
                    refine norm_ (a' := ?_) ?_ ?_
                    rotate_left
                    · show Act.put _ (some 93) _ = _
                      simp only [Act.put, List.setIfInBounds_toArray, List.set_cons_zero, List.set_cons_succ, i64_w, i32_w]
                      rfl
                    refine pu HT_ 5 (some 94) (bb 6 31) ?_
                    refine pure_ (i := 6) (N := some 95) (v := undef) (a' := ?_) (bb 7 31) rfl rfl (any_of HT_.out (by kernel_rfl)) (fun _ _ _ h => h) (Or.inr ⟨by rfl, rfl⟩) ?_ ?_
                    rotate_left
                    · simp only [Act.put, List.setIfInBounds_toArray, List.set_cons_zero, List.set_cons_succ, i64_w, i32_w]
                      rfl
                    refine pure_ (i := 7) (N := some 96) (v := undef) (a' := ?_) (bb 8 31) rfl rfl (any_of HT_.out (by kernel_rfl)) (fun _ _ _ h => h) (Or.inr ⟨by rfl, rfl⟩) ?_ ?_
                    rotate_left
                    · simp only [Act.put, List.setIfInBounds_toArray, List.set_cons_zero, List.set_cons_succ, i64_w, i32_w]
                      rfl
                    refine pure_ (i := 8) (N := some 97) (v := undef) (a' := ?_) (bb 9 31) rfl rfl (any_of HT_.out (by kernel_rfl)) (fun _ _ _ h => h) (Or.inr ⟨by rfl, rfl⟩) ?_ ?_
                    rotate_left
                    · simp only [Act.put, List.setIfInBounds_toArray, List.set_cons_zero, List.set_cons_succ, i64_w, i32_w]
                      rfl
                    refine pure_ (i := 9) (N := some 98) (v := undef) (a' := ?_) (bb 10 31) rfl rfl (any_of HT_.out (by kernel_rfl)) (fun _ _ _ h => h) (Or.inr ⟨by rfl, rfl⟩) ?_ ?_
                    rotate_left
                    · simp only [Act.put, List.setIfInBounds_toArray, List.set_cons_zero, List.set_cons_succ, i64_w, i32_w]
                      rfl
                    refine pure_ (i := 10) (N := some 99) (v := undef) (a' := ?_) (bb 11 31) rfl rfl (any_of HT_.out (by kernel_rfl)) (fun _ _ _ h => h) (Or.inr ⟨by rfl, rfl⟩) ?_ ?_
                    rotate_left
                    · simp only [Act.put, List.setIfInBounds_toArray, List.set_cons_zero, List.set_cons_succ, i64_w, i32_w]
                      rfl
                    refine pure_ (i := 11) (N := some 100) (v := undef) (a' := ?_) (bb 12 31) rfl rfl (any_of HT_.out (by kernel_rfl)) (fun _ _ _ h => h) (Or.inr ⟨by rfl, rfl⟩) ?_ ?_
                    rotate_left
                    · simp only [Act.put, List.setIfInBounds_toArray, List.set_cons_zero, List.set_cons_succ, i64_w, i32_w]
                      rfl
                    refine pure_ (i := 12) (N := some 101) (v := undef) (a' := ?_) (bb 13 31) rfl rfl (any_of HT_.out (by kernel_rfl)) (fun _ _ _ h => h) (Or.inr ⟨by rfl, rfl⟩) ?_ ?_
                    rotate_left
                    · simp only [Act.put, List.setIfInBounds_toArray, List.set_cons_zero, List.set_cons_succ, i64_w, i32_w]
                      rfl
                    refine pure_ (i := 13) (N := some 102) (v := undef) (a' := ?_) (bb 14 31) rfl rfl (any_of HT_.out (by kernel_rfl)) (fun _ _ _ h => h) (Or.inr ⟨by rfl, rfl⟩) ?_ ?_
                    rotate_left
                    · simp only [Act.put, List.setIfInBounds_toArray, List.set_cons_zero, List.set_cons_succ, i64_w, i32_w]
                      rfl
                    refine pure_ (i := 14) (N := some 103) (v := undef) (a' := ?_) (bb 15 31) rfl rfl (any_of HT_.out (by kernel_rfl)) (fun _ _ _ h => h) (Or.inr ⟨by rfl, rfl⟩) ?_ ?_
                    rotate_left
                    · simp only [Act.put, List.setIfInBounds_toArray, List.set_cons_zero, List.set_cons_succ, i64_w, i32_w]
                      rfl
                    refine pure_ (i := 15) (N := some 104) (v := undef) (a' := ?_) (bb 16 31) rfl rfl (any_of HT_.out (by kernel_rfl)) (fun _ _ _ h => h) (Or.inr ⟨by rfl, rfl⟩) ?_ ?_
                    rotate_left
                    · simp only [Act.put, List.setIfInBounds_toArray, List.set_cons_zero, List.set_cons_succ, i64_w, i32_w]
                      rfl
                    refine pure_ (i := 16) (N := some 105) (v := undef) (a' := ?_) (bb 17 31) rfl rfl (any_of HT_.out (by kernel_rfl)) (fun _ _ _ h => h) (Or.inr ⟨by rfl, rfl⟩) ?_ ?_
                    rotate_left
                    · simp only [Act.put, List.setIfInBounds_toArray, List.set_cons_zero, List.set_cons_succ, i64_w, i32_w]
                      rfl
                    refine pure_ (i := 17) (N := some 106) (v := undef) (a' := ?_) (bb 18 31) rfl rfl (any_of HT_.out (by kernel_rfl)) (fun _ _ _ h => h) (Or.inr ⟨by rfl, rfl⟩) ?_ ?_
                    rotate_left
                    · simp only [Act.put, List.setIfInBounds_toArray, List.set_cons_zero, List.set_cons_succ, i64_w, i32_w]
                      rfl
                    refine pure_ (i := 18) (N := some 107) (v := undef) (a' := ?_) (bb 19 31) rfl rfl (any_of HT_.out (by kernel_rfl)) (fun _ _ _ h => h) (Or.inr ⟨by rfl, rfl⟩) ?_ ?_
                    rotate_left
                    · simp only [Act.put, List.setIfInBounds_toArray, List.set_cons_zero, List.set_cons_succ, i64_w, i32_w]
                      rfl
                    refine pure_ (i := 19) (N := some 108) (v := undef) (a' := ?_) (bb 20 31) rfl rfl (any_of HT_.out (by kernel_rfl)) (fun _ _ _ h => h) (Or.inr ⟨by rfl, rfl⟩) ?_ ?_
                    rotate_left
                    · simp only [Act.put, List.setIfInBounds_toArray, List.set_cons_zero, List.set_cons_succ, i64_w, i32_w]
                      rfl
                    refine pure_ (i := 20) (N := some 109) (v := undef) (a' := ?_) (bb 21 31) rfl rfl (any_of HT_.out (by kernel_rfl)) (fun _ _ _ h => h) (Or.inr ⟨by rfl, rfl⟩) ?_ ?_
                    rotate_left
                    · simp only [Act.put, List.setIfInBounds_toArray, List.set_cons_zero, List.set_cons_succ, i64_w, i32_w]
                      rfl
                    refine pure_ (i := 21) (N := some 110) (v := undef) (a' := ?_) (bb 22 31) rfl rfl (any_of HT_.out (by kernel_rfl)) (fun _ _ _ h => h) (Or.inr ⟨by rfl, rfl⟩) ?_ ?_
                    rotate_left
                    · simp only [Act.put, List.setIfInBounds_toArray, List.set_cons_zero, List.set_cons_succ, i64_w, i32_w]
                      rfl
                    refine pure_ (i := 22) (N := some 111) (v := undef) (a' := ?_) (bb 23 31) rfl rfl (any_of HT_.out (by kernel_rfl)) (fun _ _ _ h => h) (Or.inr ⟨by rfl, rfl⟩) ?_ ?_
                    rotate_left
                    · simp only [Act.put, List.setIfInBounds_toArray, List.set_cons_zero, List.set_cons_succ, i64_w, i32_w]
                      rfl
                    refine pure_ (i := 23) (N := some 112) (v := undef) (a' := ?_) (bb 24 31) rfl rfl (any_of HT_.out (by kernel_rfl)) (fun _ _ _ h => h) (Or.inr ⟨by rfl, rfl⟩) ?_ ?_
                    rotate_left
                    · simp only [Act.put, List.setIfInBounds_toArray, List.set_cons_zero, List.set_cons_succ, i64_w, i32_w]
                      rfl
                    refine pure_ (i := 24) (N := some 113) (v := undef) (a' := ?_) (bb 25 31) rfl rfl (any_of HT_.out (by kernel_rfl)) (fun _ _ _ h => h) (Or.inr ⟨by rfl, rfl⟩) ?_ ?_
                    rotate_left
                    · simp only [Act.put, List.setIfInBounds_toArray, List.set_cons_zero, List.set_cons_succ, i64_w, i32_w]
                      rfl
                    refine pure_ (i := 25) (N := some 114) (v := undef) (a' := ?_) (bb 26 31) rfl rfl (any_of HT_.out (by kernel_rfl)) (fun _ _ _ h => h) (Or.inr ⟨by rfl, rfl⟩) ?_ ?_
                    rotate_left
                    · simp only [Act.put, List.setIfInBounds_toArray, List.set_cons_zero, List.set_cons_succ, i64_w, i32_w]
                      rfl
                    refine pure_ (i := 26) (N := some 115) (v := undef) (a' := ?_) (bb 27 31) rfl rfl (any_of HT_.out (by kernel_rfl)) (fun _ _ _ h => h) (Or.inr ⟨by rfl, rfl⟩) ?_ ?_
                    rotate_left
                    · simp only [Act.put, List.setIfInBounds_toArray, List.set_cons_zero, List.set_cons_succ, i64_w, i32_w]
                      rfl
                    refine pure_ (i := 27) (N := some 116) (v := undef) (a' := ?_) (bb 28 31) rfl rfl (any_of HT_.out (by kernel_rfl)) (fun _ _ _ h => h) (Or.inr ⟨by rfl, rfl⟩) ?_ ?_
                    rotate_left
                    · simp only [Act.put, List.setIfInBounds_toArray, List.set_cons_zero, List.set_cons_succ, i64_w, i32_w]
                      rfl
                    refine pure_ (i := 28) (N := some 117) (v := undef) (a' := ?_) (bb 29 31) rfl rfl (any_of HT_.out (by kernel_rfl)) (fun _ _ _ h => h) (Or.inr ⟨by rfl, rfl⟩) ?_ ?_
                    rotate_left
                    · simp only [Act.put, List.setIfInBounds_toArray, List.set_cons_zero, List.set_cons_succ, i64_w, i32_w]
                      rfl
                    refine pure_ (i := 29) (N := some 118) (v := undef) (a' := ?_) (bb 30 31) rfl rfl (any_of HT_.out (by kernel_rfl)) (fun _ _ _ h => h) (Or.inr ⟨by rfl, rfl⟩) ?_ ?_
                    rotate_left
                    · simp only [Act.put, List.setIfInBounds_toArray, List.set_cons_zero, List.set_cons_succ, i64_w, i32_w]
                      rfl
                    refine pu HT_ 30 (some 119) (bb 31 31) ?_
                    refine done_ (done_of HT_.out (by kernel_rfl)) ?_
                    try go_wp2
                    go_ret
                    exact ⟨er, bl HB⟩
                  · replace c52 := Bool.eq_false_iff.mpr c52
                    subst c52
                    have H1 : (if x11_2 > 0 then (if 0 ≤ (wrap64 (x11_2 - 1)) then (if (wrap64 (x11_2 - 1)) < (t1090.length : Int) then (if (rd_T32 t1090 (wrap64 (x11_2 - 1))).f2 = true then (some false) else (if ((Op.bytesLess (((rd_T32 t1090 (wrap64 (x11_2 - 1))).f1).toList) (((rd_T32 t1090 x11_2).f0).toList)) = true) then (vellumlaw02_CodeWhole.l2 k2 a1 x5_1 t1090 (wrap64 (x10_2 + 1)) (wrap64 (x11_2 + 1))) else (some false))) else (none)) else (none)) else (vellumlaw02_CodeWhole.l2 k2 a1 x5_1 t1090 (wrap64 (x10_2 + 1)) (wrap64 (x11_2 + 1)))) = some r := by rw [if_neg (show ¬ (false = true) by decide)] at H; exact H
                    clear H
                    have H := H1
                    clear H1
                    by_cases c57 : x11_2 > 0
                    · rw [if_pos c57] at H
                      have c57b0 : decide (0 < x11_2) = true := decide_eq_true c57
                      clear c57
                      obtain ⟨ji58, hji58⟩ : ∃ j_ : Int, (wrap64 (x11_2 - 1)) = j_ := ⟨_, rfl⟩
                      replace H : (if 0 ≤ (ji58) then (if (ji58) < (t1090.length : Int) then (if (rd_T32 t1090 (ji58)).f2 = true then (some false) else (if ((Op.bytesLess (((rd_T32 t1090 (ji58)).f1).toList) (((rd_T32 t1090 x11_2).f0).toList)) = true) then (vellumlaw02_CodeWhole.l2 k2 a1 x5_1 t1090 (wrap64 (x10_2 + 1)) (wrap64 (x11_2 + 1))) else (some false))) else (none)) else (none)) = some r := by first | (rw [hji58] at H; exact H) | (simp only [hji58] at H ⊢; exact H)
                      (try rw [hji58] at A49)
                      (try rw [hji58] at A51)
                      have hji58w : (IntKind.i64.wrap (x11_2 - 1)) = ji58 := (i64_w _).trans hji58
                      by_cases c59 : 0 ≤ (ji58)
                      · rw [if_pos c59] at H
                        have c59b0 : decide (0 ≤ (ji58)) = true := decide_eq_true c59
                        clear c59
                        by_cases c60 : (ji58) < (t1090.length : Int)
                        · rw [if_pos c60] at H
                          have c60b0 : decide ((ji58) < (t1090.length : Int)) = true := decide_eq_true c60
                          clear c60
                          obtain ⟨bq61, hbq61⟩ : ∃ b_ : Bool, b_ = ((rd_T32 t1090 (ji58)).f2) := ⟨_, rfl⟩
                          replace H : (if bq61 = true then (some false) else (if ((Op.bytesLess (((rd_T32 t1090 (ji58)).f1).toList) (((rd_T32 t1090 x11_2).f0).toList)) = true) then (vellumlaw02_CodeWhole.l2 k2 a1 x5_1 t1090 (wrap64 (x10_2 + 1)) (wrap64 (x11_2 + 1))) else (some false))) = some r := by rw [← hbq61] at H; exact H
                          have Nbq61 := am hbq61
                          clear hbq61
                          by_cases c62 : bq61 = true
                          · subst c62
                            have H1 : (some false) = some r := by rw [if_pos rfl] at H; exact H
                            clear H
                            have H := H1
                            clear H1
                            obtain rfl := Option.some.inj H
                            obtain ⟨Ao63, co63, eo63⟩ := Kd.R_slice HO_9.out
                            subst eo63
                            have p1094 : 0 ≤ (x11_2 : Int) := oda
                            have q1094 : x11_2 < (t1090.length : Int) := oda
                            obtain ⟨ad1094, e1094, hx1094_0, hx1094_1, hx1094_2⟩ := at_T32 (Kd.R_reads' HO_9.out).2.2 x11_2 p1094 q1094
                            (try rw [← Nbq61.out] at hx1094_2)
                            (try rw [← Nbq61.out] at hw1094_2)
                            cases e1094
                            replace p1094 := eq_true p1094
                            replace q1094 := eq_true q1094
                            try go_wp2_with (first | ((with_reducible refine gate_callee (f := 28) rfl ?_); refine goesL_ (some 86) rfl rfl Tryd.func28 (by kernel_rfl) rfl #[.agg #[.string ((rd_T32 t1090 x11_2).f0), .string ((rd_T32 t1090 x11_2).f1), .bool ((rd_T32 t1090 x11_2).f2)], .string a1] rfl ar ?_; (with_reducible refine (code_Has.calls ((rd_T32 t1090 x11_2).f0) ((rd_T32 t1090 x11_2).f1) ((rd_T32 t1090 x11_2).f2) a1 true _ A49.out).mono ?_); rintro e w64 ⟨rfl, hb⟩; refine ⟨_, rfl, ?_⟩; have n0_ := am (Kd.R_below (Kd.rr HO_9.out) hb); have n1_ := sb HB hb; clear HO_9; clear HB; have HO_9 := n0_; have HB := n1_; clear n0_ n1_; (try clear hb); (try clear hb2 hk hi)))
                            have n0_ := am (Kd.R_drew HO_9.out)
                            have n1_ := am (below_drew1 HB.out)
                            clear HO_9
                            clear HB
                            have HO_9 := n0_
                            have HB := n1_
                            clear n0_ n1_
                            have p1096 : 0 ≤ (x11_2 : Int) := oda
                            have q1096 : x11_2 < (t1090.length : Int) := oda
                            obtain ⟨ad1096, e1096, hx1096_0, hx1096_1, hx1096_2⟩ := at_T32 (Kd.R_reads' HO_9.out).2.2 x11_2 p1096 q1096
                            (try rw [← Nbq61.out] at hx1096_2)
                            (try rw [← Nbq61.out] at hw1096_2)
                            obtain rfl : ad1094 = ad1096 := (by injection e1096)
                            replace p1096 := eq_true p1096
                            replace q1096 := eq_true q1096
                            have p1098 : 0 ≤ ((ji58) : Int) := oda
                            have q1098 : (ji58) < (t1090.length : Int) := oda
                            obtain ⟨ad1098, e1098, hx1098_0, hx1098_1, hx1098_2⟩ := at_T32 (Kd.R_reads' HO_9.out).2.2 (ji58) p1098 q1098
                            (try rw [← Nbq61.out] at hx1098_2)
                            (try rw [← Nbq61.out] at hw1098_2)
                            obtain rfl : ad1094 = ad1098 := (by injection e1098)
                            replace p1098 := eq_true p1098
                            replace q1098 := eq_true q1098
                            refine start_ (n := 31) (S := fun w' => w'.cell? (ad1094.add ((x11_2).toNat * 3)) = some (.string ((rd_T32 t1090 x11_2).f0)) ∧ w'.cell? ⟨(ad1094.add ((x11_2).toNat * 3)).block, (ad1094.add ((x11_2).toNat * 3)).off + 1, none⟩ = some (.string ((rd_T32 t1090 x11_2).f1)) ∧ w'.cell? ⟨(ad1094.add ((x11_2).toNat * 3)).block, (ad1094.add ((x11_2).toNat * 3)).off + 2, none⟩ = some (.bool ((rd_T32 t1090 x11_2).f2)) ∧ w'.cell? (ad1094.add (((ji58)).toNat * 3)) = some (.string ((rd_T32 t1090 (ji58)).f0)) ∧ w'.cell? ⟨(ad1094.add (((ji58)).toNat * 3)).block, (ad1094.add (((ji58)).toNat * 3)).off + 1, none⟩ = some (.string ((rd_T32 t1090 (ji58)).f1)) ∧ w'.cell? ⟨(ad1094.add (((ji58)).toNat * 3)).block, (ad1094.add (((ji58)).toNat * 3)).off + 2, none⟩ = some (.bool true)) (ds := []) (bb 0 31) (by kernel_rfl) rfl rfl ⟨hx1096_0, hx1096_1, hx1096_2, hx1098_0, hx1098_1, hx1098_2⟩ (fun hHeld => ?_); refine with_tabW vellumlaw02_CodeWhole.tab20 vellumlaw02_CodeWhole.bits20 (fun HT_ HW_ => ?_)
                            generalize w64.drew = w65 at HO_9 HB hx1096_0 hx1096_1 hx1096_2 hx1098_0 hx1098_1 hx1098_2 hHeld ⊢
                            refine pu HT_ 0 (some 89) (bb 1 31) ?_
                            refine pu HT_ 1 (some 90) (bb 2 31) ?_
                            refine pu HT_ 2 (some 91) (bb 3 31) ?_
                            refine tk HT_ HW_ hHeld 3 (some 92) (bb 4 31) ?_
                            refine one_ (i := 4) (N := some 93) (bb 5 31) rfl rfl (one_of HT_.out (by kernel_rfl)) (by decide) (fun K hK => ?_)
                            refine goes_ Tryd.func30 (by kernel_rfl) rfl #[.agg #[.string ((rd_T32 t1090 x11_2).f0), .string ((rd_T32 t1090 x11_2).f1), .bool ((rd_T32 t1090 x11_2).f2)]] (by rfl) rfl rfl ar ?_
                            with_reducible refine (code_Empty.calls ((rd_T32 t1090 x11_2).f0) ((rd_T32 t1090 x11_2).f1) ((rd_T32 t1090 x11_2).f2) false _ A51.out).mono ?_
                            rintro e w66 ⟨rfl, hb⟩
                            have HS0_ := (hb.cell (World.block_lt_of_cell? _ _ (hHeld.1))).trans (hHeld.1)
                            have HS1_ := (hb.cell (World.block_lt_of_cell? _ _ (hHeld.2.1))).trans (hHeld.2.1)
                            have HS2_ := (hb.cell (World.block_lt_of_cell? _ _ (hHeld.2.2.1))).trans (hHeld.2.2.1)
                            have HS3_ := (hb.cell (World.block_lt_of_cell? _ _ (hHeld.2.2.2.1))).trans (hHeld.2.2.2.1)
                            have HS4_ := (hb.cell (World.block_lt_of_cell? _ _ (hHeld.2.2.2.2.1))).trans (hHeld.2.2.2.2.1)
                            have HS5_ := (hb.cell (World.block_lt_of_cell? _ _ (hHeld.2.2.2.2.2))).trans (hHeld.2.2.2.2.2)
                            refine ⟨_, rfl, ?_⟩
                            have n0_ := am (Kd.R_below (Kd.rr HO_9.out) hb)
                            have n1_ := sb HB hb
                            clear HO_9
                            clear HB
                            have HO_9 := n0_
                            have HB := n1_
                            clear n0_ n1_
                            (try clear hb)
                            (try clear hb2)
                            (try clear hk)
                            (try clear hi)
                            refine hK.out _ _ ⟨HS0_, HS1_, HS2_, HS3_, HS4_, HS5_⟩ (fun hHeld => ?_)
                            clear hK K
                            refine norm_ (a' := ?_) ?_ ?_
                            rotate_left
                            · show Act.put _ (some 93) _ = _
                              simp only [Act.put, List.setIfInBounds_toArray, List.set_cons_zero, List.set_cons_succ, i64_w, i32_w]
                              rfl
                            refine pu HT_ 5 (some 94) (bb 6 31) ?_
                            refine pu HT_ 6 (some 95) (bb 7 31) ?_
                            refine pu HT_ 7 (some 96) (bb 8 31) ?_
                            refine pu HT_ 8 (some 97) (bb 9 31) ?_
                            refine pu HT_ 9 (some 98) (bb 10 31) ?_
                            refine pu HT_ 10 (some 99) (bb 11 31) ?_
                            refine pu HT_ 11 (some 100) (bb 12 31) ?_
                            refine pu HT_ 12 (some 101) (bb 13 31) ?_
                            refine pu HT_ 13 (some 102) (bb 14 31) ?_
                            refine tk HT_ HW_ hHeld 14 (some 103) (bb 15 31) ?_
                            refine pu HT_ 15 (some 104) (bb 16 31) ?_
                            refine pure_ (i := 16) (N := some 105) (v := undef) (a' := ?_) (bb 17 31) rfl rfl (any_of HT_.out (by kernel_rfl)) (fun _ _ _ h => h) (Or.inr ⟨by rfl, rfl⟩) ?_ ?_
                            rotate_left
                            · simp only [Act.put, List.setIfInBounds_toArray, List.set_cons_zero, List.set_cons_succ, i64_w, i32_w]
                              rfl
                            refine pure_ (i := 17) (N := some 106) (v := undef) (a' := ?_) (bb 18 31) rfl rfl (any_of HT_.out (by kernel_rfl)) (fun _ _ _ h => h) (Or.inr ⟨by rfl, rfl⟩) ?_ ?_
                            rotate_left
                            · simp only [Act.put, List.setIfInBounds_toArray, List.set_cons_zero, List.set_cons_succ, i64_w, i32_w]
                              rfl
                            refine pure_ (i := 18) (N := some 107) (v := undef) (a' := ?_) (bb 19 31) rfl rfl (any_of HT_.out (by kernel_rfl)) (fun _ _ _ h => h) (Or.inr ⟨by rfl, rfl⟩) ?_ ?_
                            rotate_left
                            · simp only [Act.put, List.setIfInBounds_toArray, List.set_cons_zero, List.set_cons_succ, i64_w, i32_w]
                              rfl
                            refine pure_ (i := 19) (N := some 108) (v := undef) (a' := ?_) (bb 20 31) rfl rfl (any_of HT_.out (by kernel_rfl)) (fun _ _ _ h => h) (Or.inr ⟨by rfl, rfl⟩) ?_ ?_
                            rotate_left
                            · simp only [Act.put, List.setIfInBounds_toArray, List.set_cons_zero, List.set_cons_succ, i64_w, i32_w]
                              rfl
                            refine pure_ (i := 20) (N := some 109) (v := undef) (a' := ?_) (bb 21 31) rfl rfl (any_of HT_.out (by kernel_rfl)) (fun _ _ _ h => h) (Or.inr ⟨by rfl, rfl⟩) ?_ ?_
                            rotate_left
                            · simp only [Act.put, List.setIfInBounds_toArray, List.set_cons_zero, List.set_cons_succ, i64_w, i32_w]
                              rfl
                            refine pure_ (i := 21) (N := some 110) (v := undef) (a' := ?_) (bb 22 31) rfl rfl (any_of HT_.out (by kernel_rfl)) (fun _ _ _ h => h) (Or.inr ⟨by rfl, rfl⟩) ?_ ?_
                            rotate_left
                            · simp only [Act.put, List.setIfInBounds_toArray, List.set_cons_zero, List.set_cons_succ, i64_w, i32_w]
                              rfl
                            refine pure_ (i := 22) (N := some 111) (v := undef) (a' := ?_) (bb 23 31) rfl rfl (any_of HT_.out (by kernel_rfl)) (fun _ _ _ h => h) (Or.inr ⟨by rfl, rfl⟩) ?_ ?_
                            rotate_left
                            · simp only [Act.put, List.setIfInBounds_toArray, List.set_cons_zero, List.set_cons_succ, i64_w, i32_w]
                              rfl
                            refine pure_ (i := 23) (N := some 112) (v := undef) (a' := ?_) (bb 24 31) rfl rfl (any_of HT_.out (by kernel_rfl)) (fun _ _ _ h => h) (Or.inr ⟨by rfl, rfl⟩) ?_ ?_
                            rotate_left
                            · simp only [Act.put, List.setIfInBounds_toArray, List.set_cons_zero, List.set_cons_succ, i64_w, i32_w]
                              rfl
                            refine pure_ (i := 24) (N := some 113) (v := undef) (a' := ?_) (bb 25 31) rfl rfl (any_of HT_.out (by kernel_rfl)) (fun _ _ _ h => h) (Or.inr ⟨by rfl, rfl⟩) ?_ ?_
                            rotate_left
                            · simp only [Act.put, List.setIfInBounds_toArray, List.set_cons_zero, List.set_cons_succ, i64_w, i32_w]
                              rfl
                            refine pure_ (i := 25) (N := some 114) (v := undef) (a' := ?_) (bb 26 31) rfl rfl (any_of HT_.out (by kernel_rfl)) (fun _ _ _ h => h) (Or.inr ⟨by rfl, rfl⟩) ?_ ?_
                            rotate_left
                            · simp only [Act.put, List.setIfInBounds_toArray, List.set_cons_zero, List.set_cons_succ, i64_w, i32_w]
                              rfl
                            refine pure_ (i := 26) (N := some 115) (v := undef) (a' := ?_) (bb 27 31) rfl rfl (any_of HT_.out (by kernel_rfl)) (fun _ _ _ h => h) (Or.inr ⟨by rfl, rfl⟩) ?_ ?_
                            rotate_left
                            · simp only [Act.put, List.setIfInBounds_toArray, List.set_cons_zero, List.set_cons_succ, i64_w, i32_w]
                              rfl
                            refine pure_ (i := 27) (N := some 116) (v := undef) (a' := ?_) (bb 28 31) rfl rfl (any_of HT_.out (by kernel_rfl)) (fun _ _ _ h => h) (Or.inr ⟨by rfl, rfl⟩) ?_ ?_
                            rotate_left
                            · simp only [Act.put, List.setIfInBounds_toArray, List.set_cons_zero, List.set_cons_succ, i64_w, i32_w]
                              rfl
                            refine pu HT_ 28 (some 117) (bb 29 31) ?_
                            refine pu HT_ 29 (some 118) (bb 30 31) ?_
                            refine pu HT_ 30 (some 119) (bb 31 31) ?_
                            refine done_ (done_of HT_.out (by kernel_rfl)) ?_
                            try go_wp2
                            go_ret
                            exact ⟨by first | rfl | (simp [errW_none, errW_some] <;> rfl) | (simp only [← hji58]; first | rfl | (simp [errW_none, errW_some] <;> rfl)) | (simp [*, errW_none, errW_some] <;> rfl), bl HB⟩
                          · replace c62 := Bool.eq_false_iff.mpr c62
                            subst c62
                            have H1 : (if ((Op.bytesLess (((rd_T32 t1090 (ji58)).f1).toList) (((rd_T32 t1090 x11_2).f0).toList)) = true) then (vellumlaw02_CodeWhole.l2 k2 a1 x5_1 t1090 (wrap64 (x10_2 + 1)) (wrap64 (x11_2 + 1))) else (some false)) = some r := by rw [if_neg (show ¬ (false = true) by decide)] at H; exact H
                            clear H
                            have H := H1
                            clear H1
                            by_cases c67 : ((Op.bytesLess (((rd_T32 t1090 (ji58)).f1).toList) (((rd_T32 t1090 x11_2).f0).toList)) = true)
                            · rw [if_pos c67] at H
                              have c67b0 : (Op.bytesLess (((rd_T32 t1090 (ji58)).f1).toList) (((rd_T32 t1090 x11_2).f0).toList)) = true := c67
                              clear c67
                              have H' := am H
                              clear H
                              obtain ⟨Ao68, co68, eo68⟩ := Kd.R_slice HO_9.out
                              subst eo68
                              have p1094 : 0 ≤ (x11_2 : Int) := oda
                              have q1094 : x11_2 < (t1090.length : Int) := oda
                              obtain ⟨ad1094, e1094, hx1094_0, hx1094_1, hx1094_2⟩ := at_T32 (Kd.R_reads' HO_9.out).2.2 x11_2 p1094 q1094
                              (try rw [← Nbq61.out] at hx1094_2)
                              (try rw [← Nbq61.out] at hw1094_2)
                              cases e1094
                              replace p1094 := eq_true p1094
                              replace q1094 := eq_true q1094
                              try go_wp2_with (first | ((with_reducible refine gate_callee (f := 28) rfl ?_); refine goesL_ (some 86) rfl rfl Tryd.func28 (by kernel_rfl) rfl #[.agg #[.string ((rd_T32 t1090 x11_2).f0), .string ((rd_T32 t1090 x11_2).f1), .bool ((rd_T32 t1090 x11_2).f2)], .string a1] rfl ar ?_; (with_reducible refine (code_Has.calls ((rd_T32 t1090 x11_2).f0) ((rd_T32 t1090 x11_2).f1) ((rd_T32 t1090 x11_2).f2) a1 true _ A49.out).mono ?_); rintro e w69 ⟨rfl, hb⟩; refine ⟨_, rfl, ?_⟩; have n0_ := am (Kd.R_below (Kd.rr HO_9.out) hb); have n1_ := sb HB hb; clear HO_9; clear HB; have HO_9 := n0_; have HB := n1_; clear n0_ n1_; (try clear hb); (try clear hb2 hk hi)))
                              have n0_ := am (Kd.R_drew HO_9.out)
                              have n1_ := am (below_drew1 HB.out)
                              clear HO_9
                              clear HB
                              have HO_9 := n0_
                              have HB := n1_
                              clear n0_ n1_
                              have p1096 : 0 ≤ (x11_2 : Int) := oda
                              have q1096 : x11_2 < (t1090.length : Int) := oda
                              obtain ⟨ad1096, e1096, hx1096_0, hx1096_1, hx1096_2⟩ := at_T32 (Kd.R_reads' HO_9.out).2.2 x11_2 p1096 q1096
                              (try rw [← Nbq61.out] at hx1096_2)
                              (try rw [← Nbq61.out] at hw1096_2)
                              obtain rfl : ad1094 = ad1096 := (by injection e1096)
                              replace p1096 := eq_true p1096
                              replace q1096 := eq_true q1096
                              have p1098 : 0 ≤ ((ji58) : Int) := oda
                              have q1098 : (ji58) < (t1090.length : Int) := oda
                              obtain ⟨ad1098, e1098, hx1098_0, hx1098_1, hx1098_2⟩ := at_T32 (Kd.R_reads' HO_9.out).2.2 (ji58) p1098 q1098
                              (try rw [← Nbq61.out] at hx1098_2)
                              (try rw [← Nbq61.out] at hw1098_2)
                              obtain rfl : ad1094 = ad1098 := (by injection e1098)
                              replace p1098 := eq_true p1098
                              replace q1098 := eq_true q1098
                              have p1099 : 0 ≤ (x11_2 : Int) := oda
                              have q1099 : x11_2 < (t1090.length : Int) := oda
                              obtain ⟨ad1099, e1099, hx1099_0, hx1099_1, hx1099_2⟩ := at_T32 (Kd.R_reads' HO_9.out).2.2 x11_2 p1099 q1099
                              (try rw [← Nbq61.out] at hx1099_2)
                              (try rw [← Nbq61.out] at hw1099_2)
                              obtain rfl : ad1094 = ad1099 := (by injection e1099)
                              replace p1099 := eq_true p1099
                              replace q1099 := eq_true q1099
                              have p1100 : 0 ≤ ((ji58) : Int) := oda
                              have q1100 : (ji58) < (t1090.length : Int) := oda
                              obtain ⟨ad1100, e1100, hx1100_0, hx1100_1, hx1100_2⟩ := at_T32 (Kd.R_reads' HO_9.out).2.2 (ji58) p1100 q1100
                              (try rw [← Nbq61.out] at hx1100_2)
                              (try rw [← Nbq61.out] at hw1100_2)
                              obtain rfl : ad1094 = ad1100 := (by injection e1100)
                              replace p1100 := eq_true p1100
                              replace q1100 := eq_true q1100
                              refine start_ (n := 31) (S := fun w' => w'.cell? (ad1094.add ((x11_2).toNat * 3)) = some (.string ((rd_T32 t1090 x11_2).f0)) ∧ w'.cell? ⟨(ad1094.add ((x11_2).toNat * 3)).block, (ad1094.add ((x11_2).toNat * 3)).off + 1, none⟩ = some (.string ((rd_T32 t1090 x11_2).f1)) ∧ w'.cell? ⟨(ad1094.add ((x11_2).toNat * 3)).block, (ad1094.add ((x11_2).toNat * 3)).off + 2, none⟩ = some (.bool ((rd_T32 t1090 x11_2).f2)) ∧ w'.cell? (ad1094.add (((ji58)).toNat * 3)) = some (.string ((rd_T32 t1090 (ji58)).f0)) ∧ w'.cell? ⟨(ad1094.add (((ji58)).toNat * 3)).block, (ad1094.add (((ji58)).toNat * 3)).off + 1, none⟩ = some (.string ((rd_T32 t1090 (ji58)).f1)) ∧ w'.cell? ⟨(ad1094.add (((ji58)).toNat * 3)).block, (ad1094.add (((ji58)).toNat * 3)).off + 2, none⟩ = some (.bool false) ∧ w'.cell? (ad1094.add ((x11_2).toNat * 3)) = some (.string ((rd_T32 t1090 x11_2).f0)) ∧ w'.cell? ⟨(ad1094.add ((x11_2).toNat * 3)).block, (ad1094.add ((x11_2).toNat * 3)).off + 1, none⟩ = some (.string ((rd_T32 t1090 x11_2).f1)) ∧ w'.cell? ⟨(ad1094.add ((x11_2).toNat * 3)).block, (ad1094.add ((x11_2).toNat * 3)).off + 2, none⟩ = some (.bool ((rd_T32 t1090 x11_2).f2)) ∧ w'.cell? (ad1094.add (((ji58)).toNat * 3)) = some (.string ((rd_T32 t1090 (ji58)).f0)) ∧ w'.cell? ⟨(ad1094.add (((ji58)).toNat * 3)).block, (ad1094.add (((ji58)).toNat * 3)).off + 1, none⟩ = some (.string ((rd_T32 t1090 (ji58)).f1)) ∧ w'.cell? ⟨(ad1094.add (((ji58)).toNat * 3)).block, (ad1094.add (((ji58)).toNat * 3)).off + 2, none⟩ = some (.bool (false))) (ds := []) (bb 0 31) (by kernel_rfl) rfl rfl ⟨hx1096_0, hx1096_1, hx1096_2, hx1098_0, hx1098_1, hx1098_2, hx1099_0, hx1099_1, hx1099_2, hx1100_0, hx1100_1, hx1100_2⟩ (fun hHeld => ?_); refine with_tabW vellumlaw02_CodeWhole.tab20 vellumlaw02_CodeWhole.bits20 (fun HT_ HW_ => ?_)
                              generalize w69.drew = w70 at HO_9 HB hx1096_0 hx1096_1 hx1096_2 hx1098_0 hx1098_1 hx1098_2 hx1099_0 hx1099_1 hx1099_2 hx1100_0 hx1100_1 hx1100_2 hHeld ⊢
                              refine pu HT_ 0 (some 89) (bb 1 31) ?_
                              refine pu HT_ 1 (some 90) (bb 2 31) ?_
                              refine pu HT_ 2 (some 91) (bb 3 31) ?_
                              refine tk HT_ HW_ hHeld 3 (some 92) (bb 4 31) ?_
                              refine one_ (i := 4) (N := some 93) (bb 5 31) rfl rfl (one_of HT_.out (by kernel_rfl)) (by decide) (fun K hK => ?_)
                              refine goes_ Tryd.func30 (by kernel_rfl) rfl #[.agg #[.string ((rd_T32 t1090 x11_2).f0), .string ((rd_T32 t1090 x11_2).f1), .bool ((rd_T32 t1090 x11_2).f2)]] (by rfl) rfl rfl ar ?_
                              with_reducible refine (code_Empty.calls ((rd_T32 t1090 x11_2).f0) ((rd_T32 t1090 x11_2).f1) ((rd_T32 t1090 x11_2).f2) false _ A51.out).mono ?_
                              rintro e w71 ⟨rfl, hb⟩
                              have HS0_ := (hb.cell (World.block_lt_of_cell? _ _ (hHeld.1))).trans (hHeld.1)
                              have HS1_ := (hb.cell (World.block_lt_of_cell? _ _ (hHeld.2.1))).trans (hHeld.2.1)
                              have HS2_ := (hb.cell (World.block_lt_of_cell? _ _ (hHeld.2.2.1))).trans (hHeld.2.2.1)
                              have HS3_ := (hb.cell (World.block_lt_of_cell? _ _ (hHeld.2.2.2.1))).trans (hHeld.2.2.2.1)
                              have HS4_ := (hb.cell (World.block_lt_of_cell? _ _ (hHeld.2.2.2.2.1))).trans (hHeld.2.2.2.2.1)
                              have HS5_ := (hb.cell (World.block_lt_of_cell? _ _ (hHeld.2.2.2.2.2.1))).trans (hHeld.2.2.2.2.2.1)
                              have HS6_ := (hb.cell (World.block_lt_of_cell? _ _ (hHeld.2.2.2.2.2.2.1))).trans (hHeld.2.2.2.2.2.2.1)
                              have HS7_ := (hb.cell (World.block_lt_of_cell? _ _ (hHeld.2.2.2.2.2.2.2.1))).trans (hHeld.2.2.2.2.2.2.2.1)
                              have HS8_ := (hb.cell (World.block_lt_of_cell? _ _ (hHeld.2.2.2.2.2.2.2.2.1))).trans (hHeld.2.2.2.2.2.2.2.2.1)
                              have HS9_ := (hb.cell (World.block_lt_of_cell? _ _ (hHeld.2.2.2.2.2.2.2.2.2.1))).trans (hHeld.2.2.2.2.2.2.2.2.2.1)
                              have HS10_ := (hb.cell (World.block_lt_of_cell? _ _ (hHeld.2.2.2.2.2.2.2.2.2.2.1))).trans (hHeld.2.2.2.2.2.2.2.2.2.2.1)
                              have HS11_ := (hb.cell (World.block_lt_of_cell? _ _ (hHeld.2.2.2.2.2.2.2.2.2.2.2))).trans (hHeld.2.2.2.2.2.2.2.2.2.2.2)
                              refine ⟨_, rfl, ?_⟩
                              have n0_ := am (Kd.R_below (Kd.rr HO_9.out) hb)
                              have n1_ := sb HB hb
                              clear HO_9
                              clear HB
                              have HO_9 := n0_
                              have HB := n1_
                              clear n0_ n1_
                              (try clear hb)
                              (try clear hb2)
                              (try clear hk)
                              (try clear hi)
                              refine hK.out _ _ ⟨HS0_, HS1_, HS2_, HS3_, HS4_, HS5_, HS6_, HS7_, HS8_, HS9_, HS10_, HS11_⟩ (fun hHeld => ?_)
                              clear hK K
                              refine norm_ (a' := ?_) ?_ ?_
                              rotate_left
                              · show Act.put _ (some 93) _ = _
                                simp only [Act.put, List.setIfInBounds_toArray, List.set_cons_zero, List.set_cons_succ, i64_w, i32_w]
                                rfl
                              refine pu HT_ 5 (some 94) (bb 6 31) ?_
                              refine pu HT_ 6 (some 95) (bb 7 31) ?_
                              refine pu HT_ 7 (some 96) (bb 8 31) ?_
                              refine pu HT_ 8 (some 97) (bb 9 31) ?_
                              refine pu HT_ 9 (some 98) (bb 10 31) ?_
                              refine pu HT_ 10 (some 99) (bb 11 31) ?_
                              refine pu HT_ 11 (some 100) (bb 12 31) ?_
                              refine pu HT_ 12 (some 101) (bb 13 31) ?_
                              refine pu HT_ 13 (some 102) (bb 14 31) ?_
                              refine tk HT_ HW_ hHeld 14 (some 103) (bb 15 31) ?_
                              refine pu HT_ 15 (some 104) (bb 16 31) ?_
                              refine pu HT_ 16 (some 105) (bb 17 31) ?_
                              refine pu HT_ 17 (some 106) (bb 18 31) ?_
                              refine pu HT_ 18 (some 107) (bb 19 31) ?_
                              refine pu HT_ 19 (some 108) (bb 20 31) ?_
                              refine pu HT_ 21 (some 110) (bs 31 3145727) ?_
                              refine pu HT_ 22 (some 111) (bs 31 7340031) ?_
                              refine pu HT_ 23 (some 112) (bs 31 15728639) ?_
                              refine pu HT_ 24 (some 113) (bs 31 32505855) ?_
                              refine pu HT_ 25 (some 114) (bs 31 66060287) ?_
                              refine tk HT_ HW_ hHeld 20 (some 109) (bb 26 31) ?_
                              refine tk HT_ HW_ hHeld 26 (some 115) (bb 27 31) ?_
                              refine pu HT_ 27 (some 116) (bb 28 31) ?_
                              refine pu HT_ 28 (some 117) (bb 29 31) ?_
                              refine pu HT_ 29 (some 118) (bb 30 31) ?_
                              refine pu HT_ 30 (some 119) (bb 31 31) ?_
                              refine done_ (done_of HT_.out (by kernel_rfl)) ?_
                              try go_wp2
                              go_roundg k2
                              case measure => have := HK1.out; have := HK2.out; omega
                              case rel => exact ⟨(wrap64 (x10_2 + 1)), (wrap64 (x11_2 + 1)), eb, eb, H', ⟨by have := HK1.out; have := HK2.out; omega⟩, ⟨Kd.rr HO_9.out⟩, ⟨bl HB⟩⟩
                            · rw [if_neg c67] at H
                              have c67b0 : (Op.bytesLess (((rd_T32 t1090 (ji58)).f1).toList) (((rd_T32 t1090 x11_2).f0).toList)) = false := by simpa using c67
                              clear c67
                              obtain rfl := Option.some.inj H
                              obtain ⟨Ao72, co72, eo72⟩ := Kd.R_slice HO_9.out
                              subst eo72
                              have p1094 : 0 ≤ (x11_2 : Int) := oda
                              have q1094 : x11_2 < (t1090.length : Int) := oda
                              obtain ⟨ad1094, e1094, hx1094_0, hx1094_1, hx1094_2⟩ := at_T32 (Kd.R_reads' HO_9.out).2.2 x11_2 p1094 q1094
                              (try rw [← Nbq61.out] at hx1094_2)
                              (try rw [← Nbq61.out] at hw1094_2)
                              cases e1094
                              replace p1094 := eq_true p1094
                              replace q1094 := eq_true q1094
                              try go_wp2_with (first | ((with_reducible refine gate_callee (f := 28) rfl ?_); refine goesL_ (some 86) rfl rfl Tryd.func28 (by kernel_rfl) rfl #[.agg #[.string ((rd_T32 t1090 x11_2).f0), .string ((rd_T32 t1090 x11_2).f1), .bool ((rd_T32 t1090 x11_2).f2)], .string a1] rfl ar ?_; (with_reducible refine (code_Has.calls ((rd_T32 t1090 x11_2).f0) ((rd_T32 t1090 x11_2).f1) ((rd_T32 t1090 x11_2).f2) a1 true _ A49.out).mono ?_); rintro e w73 ⟨rfl, hb⟩; refine ⟨_, rfl, ?_⟩; have n0_ := am (Kd.R_below (Kd.rr HO_9.out) hb); have n1_ := sb HB hb; clear HO_9; clear HB; have HO_9 := n0_; have HB := n1_; clear n0_ n1_; (try clear hb); (try clear hb2 hk hi)))
                              have n0_ := am (Kd.R_drew HO_9.out)
                              have n1_ := am (below_drew1 HB.out)
                              clear HO_9
                              clear HB
                              have HO_9 := n0_
                              have HB := n1_
                              clear n0_ n1_
                              have p1096 : 0 ≤ (x11_2 : Int) := oda
                              have q1096 : x11_2 < (t1090.length : Int) := oda
                              obtain ⟨ad1096, e1096, hx1096_0, hx1096_1, hx1096_2⟩ := at_T32 (Kd.R_reads' HO_9.out).2.2 x11_2 p1096 q1096
                              (try rw [← Nbq61.out] at hx1096_2)
                              (try rw [← Nbq61.out] at hw1096_2)
                              obtain rfl : ad1094 = ad1096 := (by injection e1096)
                              replace p1096 := eq_true p1096
                              replace q1096 := eq_true q1096
                              have p1098 : 0 ≤ ((ji58) : Int) := oda
                              have q1098 : (ji58) < (t1090.length : Int) := oda
                              obtain ⟨ad1098, e1098, hx1098_0, hx1098_1, hx1098_2⟩ := at_T32 (Kd.R_reads' HO_9.out).2.2 (ji58) p1098 q1098
                              (try rw [← Nbq61.out] at hx1098_2)
                              (try rw [← Nbq61.out] at hw1098_2)
                              obtain rfl : ad1094 = ad1098 := (by injection e1098)
                              replace p1098 := eq_true p1098
                              replace q1098 := eq_true q1098
                              have p1099 : 0 ≤ (x11_2 : Int) := oda
                              have q1099 : x11_2 < (t1090.length : Int) := oda
                              obtain ⟨ad1099, e1099, hx1099_0, hx1099_1, hx1099_2⟩ := at_T32 (Kd.R_reads' HO_9.out).2.2 x11_2 p1099 q1099
                              (try rw [← Nbq61.out] at hx1099_2)
                              (try rw [← Nbq61.out] at hw1099_2)
                              obtain rfl : ad1094 = ad1099 := (by injection e1099)
                              replace p1099 := eq_true p1099
                              replace q1099 := eq_true q1099
                              have p1100 : 0 ≤ ((ji58) : Int) := oda
                              have q1100 : (ji58) < (t1090.length : Int) := oda
                              obtain ⟨ad1100, e1100, hx1100_0, hx1100_1, hx1100_2⟩ := at_T32 (Kd.R_reads' HO_9.out).2.2 (ji58) p1100 q1100
                              (try rw [← Nbq61.out] at hx1100_2)
                              (try rw [← Nbq61.out] at hw1100_2)
                              obtain rfl : ad1094 = ad1100 := (by injection e1100)
                              replace p1100 := eq_true p1100
                              replace q1100 := eq_true q1100
                              refine start_ (n := 31) (S := fun w' => w'.cell? (ad1094.add ((x11_2).toNat * 3)) = some (.string ((rd_T32 t1090 x11_2).f0)) ∧ w'.cell? ⟨(ad1094.add ((x11_2).toNat * 3)).block, (ad1094.add ((x11_2).toNat * 3)).off + 1, none⟩ = some (.string ((rd_T32 t1090 x11_2).f1)) ∧ w'.cell? ⟨(ad1094.add ((x11_2).toNat * 3)).block, (ad1094.add ((x11_2).toNat * 3)).off + 2, none⟩ = some (.bool ((rd_T32 t1090 x11_2).f2)) ∧ w'.cell? (ad1094.add (((ji58)).toNat * 3)) = some (.string ((rd_T32 t1090 (ji58)).f0)) ∧ w'.cell? ⟨(ad1094.add (((ji58)).toNat * 3)).block, (ad1094.add (((ji58)).toNat * 3)).off + 1, none⟩ = some (.string ((rd_T32 t1090 (ji58)).f1)) ∧ w'.cell? ⟨(ad1094.add (((ji58)).toNat * 3)).block, (ad1094.add (((ji58)).toNat * 3)).off + 2, none⟩ = some (.bool false) ∧ w'.cell? (ad1094.add ((x11_2).toNat * 3)) = some (.string ((rd_T32 t1090 x11_2).f0)) ∧ w'.cell? ⟨(ad1094.add ((x11_2).toNat * 3)).block, (ad1094.add ((x11_2).toNat * 3)).off + 1, none⟩ = some (.string ((rd_T32 t1090 x11_2).f1)) ∧ w'.cell? ⟨(ad1094.add ((x11_2).toNat * 3)).block, (ad1094.add ((x11_2).toNat * 3)).off + 2, none⟩ = some (.bool ((rd_T32 t1090 x11_2).f2)) ∧ w'.cell? (ad1094.add (((ji58)).toNat * 3)) = some (.string ((rd_T32 t1090 (ji58)).f0)) ∧ w'.cell? ⟨(ad1094.add (((ji58)).toNat * 3)).block, (ad1094.add (((ji58)).toNat * 3)).off + 1, none⟩ = some (.string ((rd_T32 t1090 (ji58)).f1)) ∧ w'.cell? ⟨(ad1094.add (((ji58)).toNat * 3)).block, (ad1094.add (((ji58)).toNat * 3)).off + 2, none⟩ = some (.bool (false))) (ds := []) (bb 0 31) (by kernel_rfl) rfl rfl ⟨hx1096_0, hx1096_1, hx1096_2, hx1098_0, hx1098_1, hx1098_2, hx1099_0, hx1099_1, hx1099_2, hx1100_0, hx1100_1, hx1100_2⟩ (fun hHeld => ?_); refine with_tabW vellumlaw02_CodeWhole.tab20 vellumlaw02_CodeWhole.bits20 (fun HT_ HW_ => ?_)
                              generalize w73.drew = w74 at HO_9 HB hx1096_0 hx1096_1 hx1096_2 hx1098_0 hx1098_1 hx1098_2 hx1099_0 hx1099_1 hx1099_2 hx1100_0 hx1100_1 hx1100_2 hHeld ⊢
                              refine pu HT_ 0 (some 89) (bb 1 31) ?_
                              refine pu HT_ 1 (some 90) (bb 2 31) ?_
                              refine pu HT_ 2 (some 91) (bb 3 31) ?_
                              refine tk HT_ HW_ hHeld 3 (some 92) (bb 4 31) ?_
                              refine one_ (i := 4) (N := some 93) (bb 5 31) rfl rfl (one_of HT_.out (by kernel_rfl)) (by decide) (fun K hK => ?_)
                              refine goes_ Tryd.func30 (by kernel_rfl) rfl #[.agg #[.string ((rd_T32 t1090 x11_2).f0), .string ((rd_T32 t1090 x11_2).f1), .bool ((rd_T32 t1090 x11_2).f2)]] (by rfl) rfl rfl ar ?_
                              with_reducible refine (code_Empty.calls ((rd_T32 t1090 x11_2).f0) ((rd_T32 t1090 x11_2).f1) ((rd_T32 t1090 x11_2).f2) false _ A51.out).mono ?_
                              rintro e w75 ⟨rfl, hb⟩
                              have HS0_ := (hb.cell (World.block_lt_of_cell? _ _ (hHeld.1))).trans (hHeld.1)
                              have HS1_ := (hb.cell (World.block_lt_of_cell? _ _ (hHeld.2.1))).trans (hHeld.2.1)
                              have HS2_ := (hb.cell (World.block_lt_of_cell? _ _ (hHeld.2.2.1))).trans (hHeld.2.2.1)
                              have HS3_ := (hb.cell (World.block_lt_of_cell? _ _ (hHeld.2.2.2.1))).trans (hHeld.2.2.2.1)
                              have HS4_ := (hb.cell (World.block_lt_of_cell? _ _ (hHeld.2.2.2.2.1))).trans (hHeld.2.2.2.2.1)
                              have HS5_ := (hb.cell (World.block_lt_of_cell? _ _ (hHeld.2.2.2.2.2.1))).trans (hHeld.2.2.2.2.2.1)
                              have HS6_ := (hb.cell (World.block_lt_of_cell? _ _ (hHeld.2.2.2.2.2.2.1))).trans (hHeld.2.2.2.2.2.2.1)
                              have HS7_ := (hb.cell (World.block_lt_of_cell? _ _ (hHeld.2.2.2.2.2.2.2.1))).trans (hHeld.2.2.2.2.2.2.2.1)
                              have HS8_ := (hb.cell (World.block_lt_of_cell? _ _ (hHeld.2.2.2.2.2.2.2.2.1))).trans (hHeld.2.2.2.2.2.2.2.2.1)
                              have HS9_ := (hb.cell (World.block_lt_of_cell? _ _ (hHeld.2.2.2.2.2.2.2.2.2.1))).trans (hHeld.2.2.2.2.2.2.2.2.2.1)
                              have HS10_ := (hb.cell (World.block_lt_of_cell? _ _ (hHeld.2.2.2.2.2.2.2.2.2.2.1))).trans (hHeld.2.2.2.2.2.2.2.2.2.2.1)
                              have HS11_ := (hb.cell (World.block_lt_of_cell? _ _ (hHeld.2.2.2.2.2.2.2.2.2.2.2))).trans (hHeld.2.2.2.2.2.2.2.2.2.2.2)
                              refine ⟨_, rfl, ?_⟩
                              have n0_ := am (Kd.R_below (Kd.rr HO_9.out) hb)
                              have n1_ := sb HB hb
                              clear HO_9
                              clear HB
                              have HO_9 := n0_
                              have HB := n1_
                              clear n0_ n1_
                              (try clear hb)
                              (try clear hb2)
                              (try clear hk)
                              (try clear hi)
                              refine hK.out _ _ ⟨HS0_, HS1_, HS2_, HS3_, HS4_, HS5_, HS6_, HS7_, HS8_, HS9_, HS10_, HS11_⟩ (fun hHeld => ?_)
                              clear hK K
                              refine norm_ (a' := ?_) ?_ ?_
                              rotate_left
                              · show Act.put _ (some 93) _ = _
                                simp only [Act.put, List.setIfInBounds_toArray, List.set_cons_zero, List.set_cons_succ, i64_w, i32_w]
                                rfl
                              refine pu HT_ 5 (some 94) (bb 6 31) ?_
                              refine pu HT_ 6 (some 95) (bb 7 31) ?_
                              refine pu HT_ 7 (some 96) (bb 8 31) ?_
                              refine pu HT_ 8 (some 97) (bb 9 31) ?_
                              refine pu HT_ 9 (some 98) (bb 10 31) ?_
                              refine pu HT_ 10 (some 99) (bb 11 31) ?_
                              refine pu HT_ 11 (some 100) (bb 12 31) ?_
                              refine pu HT_ 12 (some 101) (bb 13 31) ?_
                              refine pu HT_ 13 (some 102) (bb 14 31) ?_
                              refine tk HT_ HW_ hHeld 14 (some 103) (bb 15 31) ?_
                              refine pu HT_ 15 (some 104) (bb 16 31) ?_
                              refine pu HT_ 16 (some 105) (bb 17 31) ?_
                              refine pu HT_ 17 (some 106) (bb 18 31) ?_
                              refine pu HT_ 18 (some 107) (bb 19 31) ?_
                              refine pu HT_ 19 (some 108) (bb 20 31) ?_
                              refine pu HT_ 21 (some 110) (bs 31 3145727) ?_
                              refine pu HT_ 22 (some 111) (bs 31 7340031) ?_
                              refine pu HT_ 23 (some 112) (bs 31 15728639) ?_
                              refine pu HT_ 24 (some 113) (bs 31 32505855) ?_
                              refine pu HT_ 25 (some 114) (bs 31 66060287) ?_
                              refine tk HT_ HW_ hHeld 20 (some 109) (bb 26 31) ?_
                              refine tk HT_ HW_ hHeld 26 (some 115) (bb 27 31) ?_
                              refine pu HT_ 27 (some 116) (bb 28 31) ?_
                              refine pu HT_ 28 (some 117) (bb 29 31) ?_
                              refine pu HT_ 29 (some 118) (bb 30 31) ?_
                              refine pu HT_ 30 (some 119) (bb 31 31) ?_
                              refine done_ (done_of HT_.out (by kernel_rfl)) ?_
                              try go_wp2
                              go_ret
                              exact ⟨by first | rfl | (simp [errW_none, errW_some] <;> rfl) | (simp only [← hji58]; first | rfl | (simp [errW_none, errW_some] <;> rfl)) | (simp [*, errW_none, errW_some] <;> rfl), bl HB⟩
                        · rw [if_neg c60] at H
                          exact absurd H (by simp)
                      · rw [if_neg c59] at H
                        exact absurd H (by simp)
                    · rw [if_neg c57] at H
                      have c57b0 : decide (0 < x11_2) = false := decide_eq_false c57
                      clear c57
                      have H' := am H
                      clear H
                      obtain ⟨Ao76, co76, eo76⟩ := Kd.R_slice HO_9.out
                      subst eo76
                      have p1094 : 0 ≤ (x11_2 : Int) := oda
                      have q1094 : x11_2 < (t1090.length : Int) := oda
                      obtain ⟨ad1094, e1094, hx1094_0, hx1094_1, hx1094_2⟩ := at_T32 (Kd.R_reads' HO_9.out).2.2 x11_2 p1094 q1094
                      cases e1094
                      replace p1094 := eq_true p1094
                      replace q1094 := eq_true q1094
                      try go_wp2_with (first | ((with_reducible refine gate_callee (f := 28) rfl ?_); refine goesL_ (some 86) rfl rfl Tryd.func28 (by kernel_rfl) rfl #[.agg #[.string ((rd_T32 t1090 x11_2).f0), .string ((rd_T32 t1090 x11_2).f1), .bool ((rd_T32 t1090 x11_2).f2)], .string a1] rfl ar ?_; (with_reducible refine (code_Has.calls ((rd_T32 t1090 x11_2).f0) ((rd_T32 t1090 x11_2).f1) ((rd_T32 t1090 x11_2).f2) a1 true _ A49.out).mono ?_); rintro e w77 ⟨rfl, hb⟩; refine ⟨_, rfl, ?_⟩; have n0_ := am (Kd.R_below (Kd.rr HO_9.out) hb); have n1_ := sb HB hb; clear HO_9; clear HB; have HO_9 := n0_; have HB := n1_; clear n0_ n1_; (try clear hb); (try clear hb2 hk hi)))
                      have n0_ := am (Kd.R_drew HO_9.out)
                      have n1_ := am (below_drew1 HB.out)
                      clear HO_9
                      clear HB
                      have HO_9 := n0_
                      have HB := n1_
                      clear n0_ n1_
                      have p1096 : 0 ≤ (x11_2 : Int) := oda
                      have q1096 : x11_2 < (t1090.length : Int) := oda
                      obtain ⟨ad1096, e1096, hx1096_0, hx1096_1, hx1096_2⟩ := at_T32 (Kd.R_reads' HO_9.out).2.2 x11_2 p1096 q1096
                      obtain rfl : ad1094 = ad1096 := (by injection e1096)
                      replace p1096 := eq_true p1096
                      replace q1096 := eq_true q1096
                      refine start_ (n := 31) (S := fun w' => w'.cell? (ad1094.add ((x11_2).toNat * 3)) = some (.string ((rd_T32 t1090 x11_2).f0)) ∧ w'.cell? ⟨(ad1094.add ((x11_2).toNat * 3)).block, (ad1094.add ((x11_2).toNat * 3)).off + 1, none⟩ = some (.string ((rd_T32 t1090 x11_2).f1)) ∧ w'.cell? ⟨(ad1094.add ((x11_2).toNat * 3)).block, (ad1094.add ((x11_2).toNat * 3)).off + 2, none⟩ = some (.bool ((rd_T32 t1090 x11_2).f2))) (ds := []) (bb 0 31) (by kernel_rfl) rfl rfl ⟨hx1096_0, hx1096_1, hx1096_2⟩ (fun hHeld => ?_); refine with_tabW vellumlaw02_CodeWhole.tab20 vellumlaw02_CodeWhole.bits20 (fun HT_ HW_ => ?_)
                      generalize w77.drew = w78 at HO_9 HB hx1096_0 hx1096_1 hx1096_2 hHeld ⊢
                      refine pu HT_ 0 (some 89) (bb 1 31) ?_
                      refine pu HT_ 1 (some 90) (bb 2 31) ?_
                      refine pu HT_ 2 (some 91) (bb 3 31) ?_
                      refine tk HT_ HW_ hHeld 3 (some 92) (bb 4 31) ?_
                      refine one_ (i := 4) (N := some 93) (bb 5 31) rfl rfl (one_of HT_.out (by kernel_rfl)) (by decide) (fun K hK => ?_)
                      refine goes_ Tryd.func30 (by kernel_rfl) rfl #[.agg #[.string ((rd_T32 t1090 x11_2).f0), .string ((rd_T32 t1090 x11_2).f1), .bool ((rd_T32 t1090 x11_2).f2)]] (by rfl) rfl rfl ar ?_
                      with_reducible refine (code_Empty.calls ((rd_T32 t1090 x11_2).f0) ((rd_T32 t1090 x11_2).f1) ((rd_T32 t1090 x11_2).f2) false _ A51.out).mono ?_
                      rintro e w79 ⟨rfl, hb⟩
                      have HS0_ := (hb.cell (World.block_lt_of_cell? _ _ (hHeld.1))).trans (hHeld.1)
                      have HS1_ := (hb.cell (World.block_lt_of_cell? _ _ (hHeld.2.1))).trans (hHeld.2.1)
                      have HS2_ := (hb.cell (World.block_lt_of_cell? _ _ (hHeld.2.2))).trans (hHeld.2.2)
                      refine ⟨_, rfl, ?_⟩
                      have n0_ := am (Kd.R_below (Kd.rr HO_9.out) hb)
                      have n1_ := sb HB hb
                      clear HO_9
                      clear HB
                      have HO_9 := n0_
                      have HB := n1_
                      clear n0_ n1_
                      (try clear hb)
                      (try clear hb2)
                      (try clear hk)
                      (try clear hi)
                      refine hK.out _ _ ⟨HS0_, HS1_, HS2_⟩ (fun hHeld => ?_)
                      clear hK K
                      refine norm_ (a' := ?_) ?_ ?_
                      rotate_left
                      · show Act.put _ (some 93) _ = _
                        simp only [Act.put, List.setIfInBounds_toArray, List.set_cons_zero, List.set_cons_succ, i64_w, i32_w]
                        rfl
                      refine pu HT_ 5 (some 94) (bb 6 31) ?_
                      refine pu HT_ 6 (some 95) (bb 7 31) ?_
                      refine pu HT_ 7 (some 96) (bb 8 31) ?_
                      refine pu HT_ 8 (some 97) (bb 9 31) ?_
                      refine pure_ (i := 9) (N := some 98) (v := undef) (a' := ?_) (bb 10 31) rfl rfl (any_of HT_.out (by kernel_rfl)) (fun _ _ _ h => h) (Or.inr ⟨by rfl, rfl⟩) ?_ ?_
                      rotate_left
                      · simp only [Act.put, List.setIfInBounds_toArray, List.set_cons_zero, List.set_cons_succ, i64_w, i32_w]
                        rfl
                      refine pure_ (i := 10) (N := some 99) (v := undef) (a' := ?_) (bb 11 31) rfl rfl (any_of HT_.out (by kernel_rfl)) (fun _ _ _ h => h) (Or.inr ⟨by rfl, rfl⟩) ?_ ?_
                      rotate_left
                      · simp only [Act.put, List.setIfInBounds_toArray, List.set_cons_zero, List.set_cons_succ, i64_w, i32_w]
                        rfl
                      refine pure_ (i := 11) (N := some 100) (v := undef) (a' := ?_) (bb 12 31) rfl rfl (any_of HT_.out (by kernel_rfl)) (fun _ _ _ h => h) (Or.inr ⟨by rfl, rfl⟩) ?_ ?_
                      rotate_left
                      · simp only [Act.put, List.setIfInBounds_toArray, List.set_cons_zero, List.set_cons_succ, i64_w, i32_w]
                        rfl
                      refine pure_ (i := 12) (N := some 101) (v := undef) (a' := ?_) (bb 13 31) rfl rfl (any_of HT_.out (by kernel_rfl)) (fun _ _ _ h => h) (Or.inr ⟨by rfl, rfl⟩) ?_ ?_
                      rotate_left
                      · simp only [Act.put, List.setIfInBounds_toArray, List.set_cons_zero, List.set_cons_succ, i64_w, i32_w]
                        rfl
                      refine pure_ (i := 13) (N := some 102) (v := undef) (a' := ?_) (bb 14 31) rfl rfl (any_of HT_.out (by kernel_rfl)) (fun _ _ _ h => h) (Or.inr ⟨by rfl, rfl⟩) ?_ ?_
                      rotate_left
                      · simp only [Act.put, List.setIfInBounds_toArray, List.set_cons_zero, List.set_cons_succ, i64_w, i32_w]
                        rfl
                      refine pure_ (i := 14) (N := some 103) (v := undef) (a' := ?_) (bb 15 31) rfl rfl (any_of HT_.out (by kernel_rfl)) (fun _ _ _ h => h) (Or.inr ⟨by rfl, rfl⟩) ?_ ?_
                      rotate_left
                      · simp only [Act.put, List.setIfInBounds_toArray, List.set_cons_zero, List.set_cons_succ, i64_w, i32_w]
                        rfl
                      refine pure_ (i := 15) (N := some 104) (v := undef) (a' := ?_) (bb 16 31) rfl rfl (any_of HT_.out (by kernel_rfl)) (fun _ _ _ h => h) (Or.inr ⟨by rfl, rfl⟩) ?_ ?_
                      rotate_left
                      · simp only [Act.put, List.setIfInBounds_toArray, List.set_cons_zero, List.set_cons_succ, i64_w, i32_w]
                        rfl
                      refine pure_ (i := 16) (N := some 105) (v := undef) (a' := ?_) (bb 17 31) rfl rfl (any_of HT_.out (by kernel_rfl)) (fun _ _ _ h => h) (Or.inr ⟨by rfl, rfl⟩) ?_ ?_
                      rotate_left
                      · simp only [Act.put, List.setIfInBounds_toArray, List.set_cons_zero, List.set_cons_succ, i64_w, i32_w]
                        rfl
                      refine pure_ (i := 17) (N := some 106) (v := undef) (a' := ?_) (bb 18 31) rfl rfl (any_of HT_.out (by kernel_rfl)) (fun _ _ _ h => h) (Or.inr ⟨by rfl, rfl⟩) ?_ ?_
                      rotate_left
                      · simp only [Act.put, List.setIfInBounds_toArray, List.set_cons_zero, List.set_cons_succ, i64_w, i32_w]
                        rfl
                      refine pure_ (i := 18) (N := some 107) (v := undef) (a' := ?_) (bb 19 31) rfl rfl (any_of HT_.out (by kernel_rfl)) (fun _ _ _ h => h) (Or.inr ⟨by rfl, rfl⟩) ?_ ?_
                      rotate_left
                      · simp only [Act.put, List.setIfInBounds_toArray, List.set_cons_zero, List.set_cons_succ, i64_w, i32_w]
                        rfl
                      refine pure_ (i := 19) (N := some 108) (v := undef) (a' := ?_) (bb 20 31) rfl rfl (any_of HT_.out (by kernel_rfl)) (fun _ _ _ h => h) (Or.inr ⟨by rfl, rfl⟩) ?_ ?_
                      rotate_left
                      · simp only [Act.put, List.setIfInBounds_toArray, List.set_cons_zero, List.set_cons_succ, i64_w, i32_w]
                        rfl
                      refine pure_ (i := 20) (N := some 109) (v := undef) (a' := ?_) (bb 21 31) rfl rfl (any_of HT_.out (by kernel_rfl)) (fun _ _ _ h => h) (Or.inr ⟨by rfl, rfl⟩) ?_ ?_
                      rotate_left
                      · simp only [Act.put, List.setIfInBounds_toArray, List.set_cons_zero, List.set_cons_succ, i64_w, i32_w]
                        rfl
                      refine pure_ (i := 21) (N := some 110) (v := undef) (a' := ?_) (bb 22 31) rfl rfl (any_of HT_.out (by kernel_rfl)) (fun _ _ _ h => h) (Or.inr ⟨by rfl, rfl⟩) ?_ ?_
                      rotate_left
                      · simp only [Act.put, List.setIfInBounds_toArray, List.set_cons_zero, List.set_cons_succ, i64_w, i32_w]
                        rfl
                      refine pure_ (i := 22) (N := some 111) (v := undef) (a' := ?_) (bb 23 31) rfl rfl (any_of HT_.out (by kernel_rfl)) (fun _ _ _ h => h) (Or.inr ⟨by rfl, rfl⟩) ?_ ?_
                      rotate_left
                      · simp only [Act.put, List.setIfInBounds_toArray, List.set_cons_zero, List.set_cons_succ, i64_w, i32_w]
                        rfl
                      refine pure_ (i := 23) (N := some 112) (v := undef) (a' := ?_) (bb 24 31) rfl rfl (any_of HT_.out (by kernel_rfl)) (fun _ _ _ h => h) (Or.inr ⟨by rfl, rfl⟩) ?_ ?_
                      rotate_left
                      · simp only [Act.put, List.setIfInBounds_toArray, List.set_cons_zero, List.set_cons_succ, i64_w, i32_w]
                        rfl
                      refine pure_ (i := 24) (N := some 113) (v := undef) (a' := ?_) (bb 25 31) rfl rfl (any_of HT_.out (by kernel_rfl)) (fun _ _ _ h => h) (Or.inr ⟨by rfl, rfl⟩) ?_ ?_
                      rotate_left
                      · simp only [Act.put, List.setIfInBounds_toArray, List.set_cons_zero, List.set_cons_succ, i64_w, i32_w]
                        rfl
                      refine pure_ (i := 25) (N := some 114) (v := undef) (a' := ?_) (bb 26 31) rfl rfl (any_of HT_.out (by kernel_rfl)) (fun _ _ _ h => h) (Or.inr ⟨by rfl, rfl⟩) ?_ ?_
                      rotate_left
                      · simp only [Act.put, List.setIfInBounds_toArray, List.set_cons_zero, List.set_cons_succ, i64_w, i32_w]
                        rfl
                      refine pure_ (i := 26) (N := some 115) (v := undef) (a' := ?_) (bb 27 31) rfl rfl (any_of HT_.out (by kernel_rfl)) (fun _ _ _ h => h) (Or.inr ⟨by rfl, rfl⟩) ?_ ?_
                      rotate_left
                      · simp only [Act.put, List.setIfInBounds_toArray, List.set_cons_zero, List.set_cons_succ, i64_w, i32_w]
                        rfl
                      refine pure_ (i := 27) (N := some 116) (v := undef) (a' := ?_) (bb 28 31) rfl rfl (any_of HT_.out (by kernel_rfl)) (fun _ _ _ h => h) (Or.inr ⟨by rfl, rfl⟩) ?_ ?_
                      rotate_left
                      · simp only [Act.put, List.setIfInBounds_toArray, List.set_cons_zero, List.set_cons_succ, i64_w, i32_w]
                        rfl
                      refine pure_ (i := 28) (N := some 117) (v := undef) (a' := ?_) (bb 29 31) rfl rfl (any_of HT_.out (by kernel_rfl)) (fun _ _ _ h => h) (Or.inr ⟨by rfl, rfl⟩) ?_ ?_
                      rotate_left
                      · simp only [Act.put, List.setIfInBounds_toArray, List.set_cons_zero, List.set_cons_succ, i64_w, i32_w]
                        rfl
                      refine pu HT_ 29 (some 118) (bb 30 31) ?_
                      refine pu HT_ 30 (some 119) (bb 31 31) ?_
                      refine done_ (done_of HT_.out (by kernel_rfl)) ?_
                      try go_wp2
                      go_roundg k2
                      case measure => have := HK1.out; have := HK2.out; omega
                      case rel => exact ⟨(wrap64 (x10_2 + 1)), (wrap64 (x11_2 + 1)), eb, eb, H', ⟨by have := HK1.out; have := HK2.out; omega⟩, ⟨Kd.rr HO_9.out⟩, ⟨bl HB⟩⟩
                · replace c50 := Bool.eq_false_iff.mpr c50
                  subst c50
                  have H1 : ((code_Empty.f ((rd_T32 t1090 x11_2).f0) ((rd_T32 t1090 x11_2).f1) ((rd_T32 t1090 x11_2).f2)).bind fun t1102 => (if t1102 = true then (some false) else (if x11_2 > 0 then (if 0 ≤ (wrap64 (x11_2 - 1)) then (if (wrap64 (x11_2 - 1)) < (t1090.length : Int) then (if (rd_T32 t1090 (wrap64 (x11_2 - 1))).f2 = true then (some false) else (if ((Op.bytesLess (((rd_T32 t1090 (wrap64 (x11_2 - 1))).f1).toList) (((rd_T32 t1090 x11_2).f0).toList)) = true) then (vellumlaw02_CodeWhole.l2 k2 a1 x5_1 t1090 x10_2 (wrap64 (x11_2 + 1))) else (some false))) else (none)) else (none)) else (vellumlaw02_CodeWhole.l2 k2 a1 x5_1 t1090 x10_2 (wrap64 (x11_2 + 1)))))) = some r := by rw [if_neg (show ¬ (false = true) by decide)] at H; exact H
                  clear H
                  have H := H1
                  clear H1
                  replace H := Option.bind_eq_some_iff.mp H
                  obtain ⟨t1102, A800, H⟩ := H
                  replace H : (if t1102 = true then (some false) else (if x11_2 > 0 then (if 0 ≤ (wrap64 (x11_2 - 1)) then (if (wrap64 (x11_2 - 1)) < (t1090.length : Int) then (if (rd_T32 t1090 (wrap64 (x11_2 - 1))).f2 = true then (some false) else (if ((Op.bytesLess (((rd_T32 t1090 (wrap64 (x11_2 - 1))).f1).toList) (((rd_T32 t1090 x11_2).f0).toList)) = true) then (vellumlaw02_CodeWhole.l2 k2 a1 x5_1 t1090 x10_2 (wrap64 (x11_2 + 1))) else (some false))) else (none)) else (none)) else (vellumlaw02_CodeWhole.l2 k2 a1 x5_1 t1090 x10_2 (wrap64 (x11_2 + 1))))) = some r := H
                  have A80 := am A800
                  clear A800
                  by_cases c81 : t1102 = true
                  · subst c81
                    have H1 : (some false) = some r := by rw [if_pos rfl] at H; exact H
                    clear H
                    have H := H1
                    clear H1
                    obtain rfl := Option.some.inj H
                    obtain ⟨Ao82, co82, eo82⟩ := Kd.R_slice HO_9.out
                    subst eo82
                    have p1094 : 0 ≤ (x11_2 : Int) := oda
                    have q1094 : x11_2 < (t1090.length : Int) := oda
                    obtain ⟨ad1094, e1094, hx1094_0, hx1094_1, hx1094_2⟩ := at_T32 (Kd.R_reads' HO_9.out).2.2 x11_2 p1094 q1094
                    cases e1094
                    replace p1094 := eq_true p1094
                    replace q1094 := eq_true q1094
                    try go_wp2_with (first | ((with_reducible refine gate_callee (f := 28) rfl ?_); refine goesL_ (some 86) rfl rfl Tryd.func28 (by kernel_rfl) rfl #[.agg #[.string ((rd_T32 t1090 x11_2).f0), .string ((rd_T32 t1090 x11_2).f1), .bool ((rd_T32 t1090 x11_2).f2)], .string a1] rfl ar ?_; (with_reducible refine (code_Has.calls ((rd_T32 t1090 x11_2).f0) ((rd_T32 t1090 x11_2).f1) ((rd_T32 t1090 x11_2).f2) a1 false _ A49.out).mono ?_); rintro e w83 ⟨rfl, hb⟩; refine ⟨_, rfl, ?_⟩; have n0_ := am (Kd.R_below (Kd.rr HO_9.out) hb); have n1_ := sb HB hb; clear HO_9; clear HB; have HO_9 := n0_; have HB := n1_; clear n0_ n1_; (try clear hb); (try clear hb2 hk hi)))
                    have n0_ := am (Kd.R_drew HO_9.out)
                    have n1_ := am (below_drew1 HB.out)
                    clear HO_9
                    clear HB
                    have HO_9 := n0_
                    have HB := n1_
                    clear n0_ n1_
                    have p1101 : 0 ≤ (x11_2 : Int) := oda
                    have q1101 : x11_2 < (t1090.length : Int) := oda
                    obtain ⟨ad1101, e1101, hx1101_0, hx1101_1, hx1101_2⟩ := at_T32 (Kd.R_reads' HO_9.out).2.2 x11_2 p1101 q1101
                    obtain rfl : ad1094 = ad1101 := (by injection e1101)
                    replace p1101 := eq_true p1101
                    replace q1101 := eq_true q1101
                    refine start_ (n := 31) (S := fun w' => w'.cell? (ad1094.add ((x11_2).toNat * 3)) = some (.string ((rd_T32 t1090 x11_2).f0)) ∧ w'.cell? ⟨(ad1094.add ((x11_2).toNat * 3)).block, (ad1094.add ((x11_2).toNat * 3)).off + 1, none⟩ = some (.string ((rd_T32 t1090 x11_2).f1)) ∧ w'.cell? ⟨(ad1094.add ((x11_2).toNat * 3)).block, (ad1094.add ((x11_2).toNat * 3)).off + 2, none⟩ = some (.bool ((rd_T32 t1090 x11_2).f2))) (ds := []) (bb 0 31) (by kernel_rfl) rfl rfl ⟨hx1101_0, hx1101_1, hx1101_2⟩ (fun hHeld => ?_); refine with_tabW vellumlaw02_CodeWhole.tab20 vellumlaw02_CodeWhole.bits20 (fun HT_ HW_ => ?_)
                    generalize w83.drew = w84 at HO_9 HB hx1101_0 hx1101_1 hx1101_2 hHeld ⊢
                    refine pu HT_ 0 (some 89) (bb 1 31) ?_
                    refine pu HT_ 1 (some 90) (bb 2 31) ?_
                    refine pu HT_ 2 (some 91) (bb 3 31) ?_
                    refine tk HT_ HW_ hHeld 3 (some 92) (bb 4 31) ?_
                    refine one_ (i := 4) (N := some 93) (bb 5 31) rfl rfl (one_of HT_.out (by kernel_rfl)) (by decide) (fun K hK => ?_)
                    refine goes_ Tryd.func30 (by kernel_rfl) rfl #[.agg #[.string ((rd_T32 t1090 x11_2).f0), .string ((rd_T32 t1090 x11_2).f1), .bool ((rd_T32 t1090 x11_2).f2)]] (by rfl) rfl rfl ar ?_
                    with_reducible refine (code_Empty.calls ((rd_T32 t1090 x11_2).f0) ((rd_T32 t1090 x11_2).f1) ((rd_T32 t1090 x11_2).f2) true _ A80.out).mono ?_
                    rintro e w85 ⟨rfl, hb⟩
                    have HS0_ := (hb.cell (World.block_lt_of_cell? _ _ (hHeld.1))).trans (hHeld.1)
                    have HS1_ := (hb.cell (World.block_lt_of_cell? _ _ (hHeld.2.1))).trans (hHeld.2.1)
                    have HS2_ := (hb.cell (World.block_lt_of_cell? _ _ (hHeld.2.2))).trans (hHeld.2.2)
                    refine ⟨_, rfl, ?_⟩
                    have n0_ := am (Kd.R_below (Kd.rr HO_9.out) hb)
                    have n1_ := sb HB hb
                    clear HO_9
                    clear HB
                    have HO_9 := n0_
                    have HB := n1_
                    clear n0_ n1_
                    (try clear hb)
                    (try clear hb2)
                    (try clear hk)
                    (try clear hi)
                    refine hK.out _ _ ⟨HS0_, HS1_, HS2_⟩ (fun hHeld => ?_)
                    clear hK K
                    refine norm_ (a' := ?_) ?_ ?_
                    rotate_left
                    · show Act.put _ (some 93) _ = _
                      simp only [Act.put, List.setIfInBounds_toArray, List.set_cons_zero, List.set_cons_succ, i64_w, i32_w]
                      rfl
                    refine pu HT_ 5 (some 94) (bb 6 31) ?_
                    refine pure_ (i := 6) (N := some 95) (v := undef) (a' := ?_) (bb 7 31) rfl rfl (any_of HT_.out (by kernel_rfl)) (fun _ _ _ h => h) (Or.inr ⟨by rfl, rfl⟩) ?_ ?_
                    rotate_left
                    · simp only [Act.put, List.setIfInBounds_toArray, List.set_cons_zero, List.set_cons_succ, i64_w, i32_w]
                      rfl
                    refine pure_ (i := 7) (N := some 96) (v := undef) (a' := ?_) (bb 8 31) rfl rfl (any_of HT_.out (by kernel_rfl)) (fun _ _ _ h => h) (Or.inr ⟨by rfl, rfl⟩) ?_ ?_
                    rotate_left
                    · simp only [Act.put, List.setIfInBounds_toArray, List.set_cons_zero, List.set_cons_succ, i64_w, i32_w]
                      rfl
                    refine pure_ (i := 8) (N := some 97) (v := undef) (a' := ?_) (bb 9 31) rfl rfl (any_of HT_.out (by kernel_rfl)) (fun _ _ _ h => h) (Or.inr ⟨by rfl, rfl⟩) ?_ ?_
                    rotate_left
                    · simp only [Act.put, List.setIfInBounds_toArray, List.set_cons_zero, List.set_cons_succ, i64_w, i32_w]
                      rfl
                    refine pure_ (i := 9) (N := some 98) (v := undef) (a' := ?_) (bb 10 31) rfl rfl (any_of HT_.out (by kernel_rfl)) (fun _ _ _ h => h) (Or.inr ⟨by rfl, rfl⟩) ?_ ?_
                    rotate_left
                    · simp only [Act.put, List.setIfInBounds_toArray, List.set_cons_zero, List.set_cons_succ, i64_w, i32_w]
                      rfl
                    refine pure_ (i := 10) (N := some 99) (v := undef) (a' := ?_) (bb 11 31) rfl rfl (any_of HT_.out (by kernel_rfl)) (fun _ _ _ h => h) (Or.inr ⟨by rfl, rfl⟩) ?_ ?_
                    rotate_left
                    · simp only [Act.put, List.setIfInBounds_toArray, List.set_cons_zero, List.set_cons_succ, i64_w, i32_w]
                      rfl
                    refine pure_ (i := 11) (N := some 100) (v := undef) (a' := ?_) (bb 12 31) rfl rfl (any_of HT_.out (by kernel_rfl)) (fun _ _ _ h => h) (Or.inr ⟨by rfl, rfl⟩) ?_ ?_
                    rotate_left
                    · simp only [Act.put, List.setIfInBounds_toArray, List.set_cons_zero, List.set_cons_succ, i64_w, i32_w]
                      rfl
                    refine pure_ (i := 12) (N := some 101) (v := undef) (a' := ?_) (bb 13 31) rfl rfl (any_of HT_.out (by kernel_rfl)) (fun _ _ _ h => h) (Or.inr ⟨by rfl, rfl⟩) ?_ ?_
                    rotate_left
                    · simp only [Act.put, List.setIfInBounds_toArray, List.set_cons_zero, List.set_cons_succ, i64_w, i32_w]
                      rfl
                    refine pure_ (i := 13) (N := some 102) (v := undef) (a' := ?_) (bb 14 31) rfl rfl (any_of HT_.out (by kernel_rfl)) (fun _ _ _ h => h) (Or.inr ⟨by rfl, rfl⟩) ?_ ?_
                    rotate_left
                    · simp only [Act.put, List.setIfInBounds_toArray, List.set_cons_zero, List.set_cons_succ, i64_w, i32_w]
                      rfl
                    refine pure_ (i := 14) (N := some 103) (v := undef) (a' := ?_) (bb 15 31) rfl rfl (any_of HT_.out (by kernel_rfl)) (fun _ _ _ h => h) (Or.inr ⟨by rfl, rfl⟩) ?_ ?_
                    rotate_left
                    · simp only [Act.put, List.setIfInBounds_toArray, List.set_cons_zero, List.set_cons_succ, i64_w, i32_w]
                      rfl
                    refine pure_ (i := 15) (N := some 104) (v := undef) (a' := ?_) (bb 16 31) rfl rfl (any_of HT_.out (by kernel_rfl)) (fun _ _ _ h => h) (Or.inr ⟨by rfl, rfl⟩) ?_ ?_
                    rotate_left
                    · simp only [Act.put, List.setIfInBounds_toArray, List.set_cons_zero, List.set_cons_succ, i64_w, i32_w]
                      rfl
                    refine pure_ (i := 16) (N := some 105) (v := undef) (a' := ?_) (bb 17 31) rfl rfl (any_of HT_.out (by kernel_rfl)) (fun _ _ _ h => h) (Or.inr ⟨by rfl, rfl⟩) ?_ ?_
                    rotate_left
                    · simp only [Act.put, List.setIfInBounds_toArray, List.set_cons_zero, List.set_cons_succ, i64_w, i32_w]
                      rfl
                    refine pure_ (i := 17) (N := some 106) (v := undef) (a' := ?_) (bb 18 31) rfl rfl (any_of HT_.out (by kernel_rfl)) (fun _ _ _ h => h) (Or.inr ⟨by rfl, rfl⟩) ?_ ?_
                    rotate_left
                    · simp only [Act.put, List.setIfInBounds_toArray, List.set_cons_zero, List.set_cons_succ, i64_w, i32_w]
                      rfl
                    refine pure_ (i := 18) (N := some 107) (v := undef) (a' := ?_) (bb 19 31) rfl rfl (any_of HT_.out (by kernel_rfl)) (fun _ _ _ h => h) (Or.inr ⟨by rfl, rfl⟩) ?_ ?_
                    rotate_left
                    · simp only [Act.put, List.setIfInBounds_toArray, List.set_cons_zero, List.set_cons_succ, i64_w, i32_w]
                      rfl
                    refine pure_ (i := 19) (N := some 108) (v := undef) (a' := ?_) (bb 20 31) rfl rfl (any_of HT_.out (by kernel_rfl)) (fun _ _ _ h => h) (Or.inr ⟨by rfl, rfl⟩) ?_ ?_
                    rotate_left
                    · simp only [Act.put, List.setIfInBounds_toArray, List.set_cons_zero, List.set_cons_succ, i64_w, i32_w]
                      rfl
                    refine pure_ (i := 20) (N := some 109) (v := undef) (a' := ?_) (bb 21 31) rfl rfl (any_of HT_.out (by kernel_rfl)) (fun _ _ _ h => h) (Or.inr ⟨by rfl, rfl⟩) ?_ ?_
                    rotate_left
                    · simp only [Act.put, List.setIfInBounds_toArray, List.set_cons_zero, List.set_cons_succ, i64_w, i32_w]
                      rfl
                    refine pure_ (i := 21) (N := some 110) (v := undef) (a' := ?_) (bb 22 31) rfl rfl (any_of HT_.out (by kernel_rfl)) (fun _ _ _ h => h) (Or.inr ⟨by rfl, rfl⟩) ?_ ?_
                    rotate_left
                    · simp only [Act.put, List.setIfInBounds_toArray, List.set_cons_zero, List.set_cons_succ, i64_w, i32_w]
                      rfl
                    refine pure_ (i := 22) (N := some 111) (v := undef) (a' := ?_) (bb 23 31) rfl rfl (any_of HT_.out (by kernel_rfl)) (fun _ _ _ h => h) (Or.inr ⟨by rfl, rfl⟩) ?_ ?_
                    rotate_left
                    · simp only [Act.put, List.setIfInBounds_toArray, List.set_cons_zero, List.set_cons_succ, i64_w, i32_w]
                      rfl
                    refine pure_ (i := 23) (N := some 112) (v := undef) (a' := ?_) (bb 24 31) rfl rfl (any_of HT_.out (by kernel_rfl)) (fun _ _ _ h => h) (Or.inr ⟨by rfl, rfl⟩) ?_ ?_
                    rotate_left
                    · simp only [Act.put, List.setIfInBounds_toArray, List.set_cons_zero, List.set_cons_succ, i64_w, i32_w]
                      rfl
                    refine pure_ (i := 24) (N := some 113) (v := undef) (a' := ?_) (bb 25 31) rfl rfl (any_of HT_.out (by kernel_rfl)) (fun _ _ _ h => h) (Or.inr ⟨by rfl, rfl⟩) ?_ ?_
                    rotate_left
                    · simp only [Act.put, List.setIfInBounds_toArray, List.set_cons_zero, List.set_cons_succ, i64_w, i32_w]
                      rfl
                    refine pure_ (i := 25) (N := some 114) (v := undef) (a' := ?_) (bb 26 31) rfl rfl (any_of HT_.out (by kernel_rfl)) (fun _ _ _ h => h) (Or.inr ⟨by rfl, rfl⟩) ?_ ?_
                    rotate_left
                    · simp only [Act.put, List.setIfInBounds_toArray, List.set_cons_zero, List.set_cons_succ, i64_w, i32_w]
                      rfl
                    refine pure_ (i := 26) (N := some 115) (v := undef) (a' := ?_) (bb 27 31) rfl rfl (any_of HT_.out (by kernel_rfl)) (fun _ _ _ h => h) (Or.inr ⟨by rfl, rfl⟩) ?_ ?_
                    rotate_left
                    · simp only [Act.put, List.setIfInBounds_toArray, List.set_cons_zero, List.set_cons_succ, i64_w, i32_w]
                      rfl
                    refine pure_ (i := 27) (N := some 116) (v := undef) (a' := ?_) (bb 28 31) rfl rfl (any_of HT_.out (by kernel_rfl)) (fun _ _ _ h => h) (Or.inr ⟨by rfl, rfl⟩) ?_ ?_
                    rotate_left
                    · simp only [Act.put, List.setIfInBounds_toArray, List.set_cons_zero, List.set_cons_succ, i64_w, i32_w]
                      rfl
                    refine pure_ (i := 28) (N := some 117) (v := undef) (a' := ?_) (bb 29 31) rfl rfl (any_of HT_.out (by kernel_rfl)) (fun _ _ _ h => h) (Or.inr ⟨by rfl, rfl⟩) ?_ ?_
                    rotate_left
                    · simp only [Act.put, List.setIfInBounds_toArray, List.set_cons_zero, List.set_cons_succ, i64_w, i32_w]
                      rfl
                    refine pure_ (i := 29) (N := some 118) (v := undef) (a' := ?_) (bb 30 31) rfl rfl (any_of HT_.out (by kernel_rfl)) (fun _ _ _ h => h) (Or.inr ⟨by rfl, rfl⟩) ?_ ?_
                    rotate_left
                    · simp only [Act.put, List.setIfInBounds_toArray, List.set_cons_zero, List.set_cons_succ, i64_w, i32_w]
                      rfl
                    refine pu HT_ 30 (some 119) (bb 31 31) ?_
                    refine done_ (done_of HT_.out (by kernel_rfl)) ?_
                    try go_wp2
                    go_ret
                    exact ⟨er, bl HB⟩
                  · replace c81 := Bool.eq_false_iff.mpr c81
                    subst c81
                    have H1 : (if x11_2 > 0 then (if 0 ≤ (wrap64 (x11_2 - 1)) then (if (wrap64 (x11_2 - 1)) < (t1090.length : Int) then (if (rd_T32 t1090 (wrap64 (x11_2 - 1))).f2 = true then (some false) else (if ((Op.bytesLess (((rd_T32 t1090 (wrap64 (x11_2 - 1))).f1).toList) (((rd_T32 t1090 x11_2).f0).toList)) = true) then (vellumlaw02_CodeWhole.l2 k2 a1 x5_1 t1090 x10_2 (wrap64 (x11_2 + 1))) else (some false))) else (none)) else (none)) else (vellumlaw02_CodeWhole.l2 k2 a1 x5_1 t1090 x10_2 (wrap64 (x11_2 + 1)))) = some r := by rw [if_neg (show ¬ (false = true) by decide)] at H; exact H
                    clear H
                    have H := H1
                    clear H1
                    by_cases c86 : x11_2 > 0
                    · rw [if_pos c86] at H
                      have c86b0 : decide (0 < x11_2) = true := decide_eq_true c86
                      clear c86
                      obtain ⟨ji87, hji87⟩ : ∃ j_ : Int, (wrap64 (x11_2 - 1)) = j_ := ⟨_, rfl⟩
                      replace H : (if 0 ≤ (ji87) then (if (ji87) < (t1090.length : Int) then (if (rd_T32 t1090 (ji87)).f2 = true then (some false) else (if ((Op.bytesLess (((rd_T32 t1090 (ji87)).f1).toList) (((rd_T32 t1090 x11_2).f0).toList)) = true) then (vellumlaw02_CodeWhole.l2 k2 a1 x5_1 t1090 x10_2 (wrap64 (x11_2 + 1))) else (some false))) else (none)) else (none)) = some r := by first | (rw [hji87] at H; exact H) | (simp only [hji87] at H ⊢; exact H)
                      (try rw [hji87] at A49)
                      (try rw [hji87] at A80)
                      have hji87w : (IntKind.i64.wrap (x11_2 - 1)) = ji87 := (i64_w _).trans hji87
                      by_cases c88 : 0 ≤ (ji87)
                      · rw [if_pos c88] at H
                        have c88b0 : decide (0 ≤ (ji87)) = true := decide_eq_true c88
                        clear c88
                        by_cases c89 : (ji87) < (t1090.length : Int)
                        · rw [if_pos c89] at H
                          have c89b0 : decide ((ji87) < (t1090.length : Int)) = true := decide_eq_true c89
                          clear c89
                          obtain ⟨bq90, hbq90⟩ : ∃ b_ : Bool, b_ = ((rd_T32 t1090 (ji87)).f2) := ⟨_, rfl⟩
                          replace H : (if bq90 = true then (some false) else (if ((Op.bytesLess (((rd_T32 t1090 (ji87)).f1).toList) (((rd_T32 t1090 x11_2).f0).toList)) = true) then (vellumlaw02_CodeWhole.l2 k2 a1 x5_1 t1090 x10_2 (wrap64 (x11_2 + 1))) else (some false))) = some r := by rw [← hbq90] at H; exact H
                          have Nbq90 := am hbq90
                          clear hbq90
                          by_cases c91 : bq90 = true
                          · subst c91
                            have H1 : (some false) = some r := by rw [if_pos rfl] at H; exact H
                            clear H
                            have H := H1
                            clear H1
                            obtain rfl := Option.some.inj H
                            obtain ⟨Ao92, co92, eo92⟩ := Kd.R_slice HO_9.out
                            subst eo92
                            have p1094 : 0 ≤ (x11_2 : Int) := oda
                            have q1094 : x11_2 < (t1090.length : Int) := oda
                            obtain ⟨ad1094, e1094, hx1094_0, hx1094_1, hx1094_2⟩ := at_T32 (Kd.R_reads' HO_9.out).2.2 x11_2 p1094 q1094
                            (try rw [← Nbq90.out] at hx1094_2)
                            (try rw [← Nbq90.out] at hw1094_2)
                            cases e1094
                            replace p1094 := eq_true p1094
                            replace q1094 := eq_true q1094
                            try go_wp2_with (first | ((with_reducible refine gate_callee (f := 28) rfl ?_); refine goesL_ (some 86) rfl rfl Tryd.func28 (by kernel_rfl) rfl #[.agg #[.string ((rd_T32 t1090 x11_2).f0), .string ((rd_T32 t1090 x11_2).f1), .bool ((rd_T32 t1090 x11_2).f2)], .string a1] rfl ar ?_; (with_reducible refine (code_Has.calls ((rd_T32 t1090 x11_2).f0) ((rd_T32 t1090 x11_2).f1) ((rd_T32 t1090 x11_2).f2) a1 false _ A49.out).mono ?_); rintro e w93 ⟨rfl, hb⟩; refine ⟨_, rfl, ?_⟩; have n0_ := am (Kd.R_below (Kd.rr HO_9.out) hb); have n1_ := sb HB hb; clear HO_9; clear HB; have HO_9 := n0_; have HB := n1_; clear n0_ n1_; (try clear hb); (try clear hb2 hk hi)))
                            have n0_ := am (Kd.R_drew HO_9.out)
                            have n1_ := am (below_drew1 HB.out)
                            clear HO_9
                            clear HB
                            have HO_9 := n0_
                            have HB := n1_
                            clear n0_ n1_
                            have p1101 : 0 ≤ (x11_2 : Int) := oda
                            have q1101 : x11_2 < (t1090.length : Int) := oda
                            obtain ⟨ad1101, e1101, hx1101_0, hx1101_1, hx1101_2⟩ := at_T32 (Kd.R_reads' HO_9.out).2.2 x11_2 p1101 q1101
                            (try rw [← Nbq90.out] at hx1101_2)
                            (try rw [← Nbq90.out] at hw1101_2)
                            obtain rfl : ad1094 = ad1101 := (by injection e1101)
                            replace p1101 := eq_true p1101
                            replace q1101 := eq_true q1101
                            have p1103 : 0 ≤ ((ji87) : Int) := oda
                            have q1103 : (ji87) < (t1090.length : Int) := oda
                            obtain ⟨ad1103, e1103, hx1103_0, hx1103_1, hx1103_2⟩ := at_T32 (Kd.R_reads' HO_9.out).2.2 (ji87) p1103 q1103
                            (try rw [← Nbq90.out] at hx1103_2)
                            (try rw [← Nbq90.out] at hw1103_2)
                            obtain rfl : ad1094 = ad1103 := (by injection e1103)
                            replace p1103 := eq_true p1103
                            replace q1103 := eq_true q1103
                            refine start_ (n := 31) (S := fun w' => w'.cell? (ad1094.add ((x11_2).toNat * 3)) = some (.string ((rd_T32 t1090 x11_2).f0)) ∧ w'.cell? ⟨(ad1094.add ((x11_2).toNat * 3)).block, (ad1094.add ((x11_2).toNat * 3)).off + 1, none⟩ = some (.string ((rd_T32 t1090 x11_2).f1)) ∧ w'.cell? ⟨(ad1094.add ((x11_2).toNat * 3)).block, (ad1094.add ((x11_2).toNat * 3)).off + 2, none⟩ = some (.bool ((rd_T32 t1090 x11_2).f2)) ∧ w'.cell? (ad1094.add (((ji87)).toNat * 3)) = some (.string ((rd_T32 t1090 (ji87)).f0)) ∧ w'.cell? ⟨(ad1094.add (((ji87)).toNat * 3)).block, (ad1094.add (((ji87)).toNat * 3)).off + 1, none⟩ = some (.string ((rd_T32 t1090 (ji87)).f1)) ∧ w'.cell? ⟨(ad1094.add (((ji87)).toNat * 3)).block, (ad1094.add (((ji87)).toNat * 3)).off + 2, none⟩ = some (.bool true)) (ds := []) (bb 0 31) (by kernel_rfl) rfl rfl ⟨hx1101_0, hx1101_1, hx1101_2, hx1103_0, hx1103_1, hx1103_2⟩ (fun hHeld => ?_); refine with_tabW vellumlaw02_CodeWhole.tab20 vellumlaw02_CodeWhole.bits20 (fun HT_ HW_ => ?_)
                            generalize w93.drew = w94 at HO_9 HB hx1101_0 hx1101_1 hx1101_2 hx1103_0 hx1103_1 hx1103_2 hHeld ⊢
                            refine pu HT_ 0 (some 89) (bb 1 31) ?_
                            refine pu HT_ 1 (some 90) (bb 2 31) ?_
                            refine pu HT_ 2 (some 91) (bb 3 31) ?_
                            refine tk HT_ HW_ hHeld 3 (some 92) (bb 4 31) ?_
                            refine one_ (i := 4) (N := some 93) (bb 5 31) rfl rfl (one_of HT_.out (by kernel_rfl)) (by decide) (fun K hK => ?_)
                            refine goes_ Tryd.func30 (by kernel_rfl) rfl #[.agg #[.string ((rd_T32 t1090 x11_2).f0), .string ((rd_T32 t1090 x11_2).f1), .bool ((rd_T32 t1090 x11_2).f2)]] (by rfl) rfl rfl ar ?_
                            with_reducible refine (code_Empty.calls ((rd_T32 t1090 x11_2).f0) ((rd_T32 t1090 x11_2).f1) ((rd_T32 t1090 x11_2).f2) false _ A80.out).mono ?_
                            rintro e w95 ⟨rfl, hb⟩
                            have HS0_ := (hb.cell (World.block_lt_of_cell? _ _ (hHeld.1))).trans (hHeld.1)
                            have HS1_ := (hb.cell (World.block_lt_of_cell? _ _ (hHeld.2.1))).trans (hHeld.2.1)
                            have HS2_ := (hb.cell (World.block_lt_of_cell? _ _ (hHeld.2.2.1))).trans (hHeld.2.2.1)
                            have HS3_ := (hb.cell (World.block_lt_of_cell? _ _ (hHeld.2.2.2.1))).trans (hHeld.2.2.2.1)
                            have HS4_ := (hb.cell (World.block_lt_of_cell? _ _ (hHeld.2.2.2.2.1))).trans (hHeld.2.2.2.2.1)
                            have HS5_ := (hb.cell (World.block_lt_of_cell? _ _ (hHeld.2.2.2.2.2))).trans (hHeld.2.2.2.2.2)
                            refine ⟨_, rfl, ?_⟩
                            have n0_ := am (Kd.R_below (Kd.rr HO_9.out) hb)
                            have n1_ := sb HB hb
                            clear HO_9
                            clear HB
                            have HO_9 := n0_
                            have HB := n1_
                            clear n0_ n1_
                            (try clear hb)
                            (try clear hb2)
                            (try clear hk)
                            (try clear hi)
                            refine hK.out _ _ ⟨HS0_, HS1_, HS2_, HS3_, HS4_, HS5_⟩ (fun hHeld => ?_)
                            clear hK K
                            refine norm_ (a' := ?_) ?_ ?_
                            rotate_left
                            · show Act.put _ (some 93) _ = _
                              simp only [Act.put, List.setIfInBounds_toArray, List.set_cons_zero, List.set_cons_succ, i64_w, i32_w]
                              rfl
                            refine pu HT_ 5 (some 94) (bb 6 31) ?_
                            refine pu HT_ 6 (some 95) (bb 7 31) ?_
                            refine pu HT_ 7 (some 96) (bb 8 31) ?_
                            refine pu HT_ 8 (some 97) (bb 9 31) ?_
                            refine pu HT_ 9 (some 98) (bb 10 31) ?_
                            refine pu HT_ 10 (some 99) (bb 11 31) ?_
                            refine pu HT_ 11 (some 100) (bb 12 31) ?_
                            refine pu HT_ 12 (some 101) (bb 13 31) ?_
                            refine pu HT_ 13 (some 102) (bb 14 31) ?_
                            refine tk HT_ HW_ hHeld 14 (some 103) (bb 15 31) ?_
                            refine pu HT_ 15 (some 104) (bb 16 31) ?_
                            refine pure_ (i := 16) (N := some 105) (v := undef) (a' := ?_) (bb 17 31) rfl rfl (any_of HT_.out (by kernel_rfl)) (fun _ _ _ h => h) (Or.inr ⟨by rfl, rfl⟩) ?_ ?_
                            rotate_left
                            · simp only [Act.put, List.setIfInBounds_toArray, List.set_cons_zero, List.set_cons_succ, i64_w, i32_w]
                              rfl
                            refine pure_ (i := 17) (N := some 106) (v := undef) (a' := ?_) (bb 18 31) rfl rfl (any_of HT_.out (by kernel_rfl)) (fun _ _ _ h => h) (Or.inr ⟨by rfl, rfl⟩) ?_ ?_
                            rotate_left
                            · simp only [Act.put, List.setIfInBounds_toArray, List.set_cons_zero, List.set_cons_succ, i64_w, i32_w]
                              rfl
                            refine pure_ (i := 18) (N := some 107) (v := undef) (a' := ?_) (bb 19 31) rfl rfl (any_of HT_.out (by kernel_rfl)) (fun _ _ _ h => h) (Or.inr ⟨by rfl, rfl⟩) ?_ ?_
                            rotate_left
                            · simp only [Act.put, List.setIfInBounds_toArray, List.set_cons_zero, List.set_cons_succ, i64_w, i32_w]
                              rfl
                            refine pure_ (i := 19) (N := some 108) (v := undef) (a' := ?_) (bb 20 31) rfl rfl (any_of HT_.out (by kernel_rfl)) (fun _ _ _ h => h) (Or.inr ⟨by rfl, rfl⟩) ?_ ?_
                            rotate_left
                            · simp only [Act.put, List.setIfInBounds_toArray, List.set_cons_zero, List.set_cons_succ, i64_w, i32_w]
                              rfl
                            refine pure_ (i := 20) (N := some 109) (v := undef) (a' := ?_) (bb 21 31) rfl rfl (any_of HT_.out (by kernel_rfl)) (fun _ _ _ h => h) (Or.inr ⟨by rfl, rfl⟩) ?_ ?_
                            rotate_left
                            · simp only [Act.put, List.setIfInBounds_toArray, List.set_cons_zero, List.set_cons_succ, i64_w, i32_w]
                              rfl
                            refine pure_ (i := 21) (N := some 110) (v := undef) (a' := ?_) (bb 22 31) rfl rfl (any_of HT_.out (by kernel_rfl)) (fun _ _ _ h => h) (Or.inr ⟨by rfl, rfl⟩) ?_ ?_
                            rotate_left
                            · simp only [Act.put, List.setIfInBounds_toArray, List.set_cons_zero, List.set_cons_succ, i64_w, i32_w]
                              rfl
                            refine pure_ (i := 22) (N := some 111) (v := undef) (a' := ?_) (bb 23 31) rfl rfl (any_of HT_.out (by kernel_rfl)) (fun _ _ _ h => h) (Or.inr ⟨by rfl, rfl⟩) ?_ ?_
                            rotate_left
                            · simp only [Act.put, List.setIfInBounds_toArray, List.set_cons_zero, List.set_cons_succ, i64_w, i32_w]
                              rfl
                            refine pure_ (i := 23) (N := some 112) (v := undef) (a' := ?_) (bb 24 31) rfl rfl (any_of HT_.out (by kernel_rfl)) (fun _ _ _ h => h) (Or.inr ⟨by rfl, rfl⟩) ?_ ?_
                            rotate_left
                            · simp only [Act.put, List.setIfInBounds_toArray, List.set_cons_zero, List.set_cons_succ, i64_w, i32_w]
                              rfl
                            refine pure_ (i := 24) (N := some 113) (v := undef) (a' := ?_) (bb 25 31) rfl rfl (any_of HT_.out (by kernel_rfl)) (fun _ _ _ h => h) (Or.inr ⟨by rfl, rfl⟩) ?_ ?_
                            rotate_left
                            · simp only [Act.put, List.setIfInBounds_toArray, List.set_cons_zero, List.set_cons_succ, i64_w, i32_w]
                              rfl
                            refine pure_ (i := 25) (N := some 114) (v := undef) (a' := ?_) (bb 26 31) rfl rfl (any_of HT_.out (by kernel_rfl)) (fun _ _ _ h => h) (Or.inr ⟨by rfl, rfl⟩) ?_ ?_
                            rotate_left
                            · simp only [Act.put, List.setIfInBounds_toArray, List.set_cons_zero, List.set_cons_succ, i64_w, i32_w]
                              rfl
                            refine pure_ (i := 26) (N := some 115) (v := undef) (a' := ?_) (bb 27 31) rfl rfl (any_of HT_.out (by kernel_rfl)) (fun _ _ _ h => h) (Or.inr ⟨by rfl, rfl⟩) ?_ ?_
                            rotate_left
                            · simp only [Act.put, List.setIfInBounds_toArray, List.set_cons_zero, List.set_cons_succ, i64_w, i32_w]
                              rfl
                            refine pure_ (i := 27) (N := some 116) (v := undef) (a' := ?_) (bb 28 31) rfl rfl (any_of HT_.out (by kernel_rfl)) (fun _ _ _ h => h) (Or.inr ⟨by rfl, rfl⟩) ?_ ?_
                            rotate_left
                            · simp only [Act.put, List.setIfInBounds_toArray, List.set_cons_zero, List.set_cons_succ, i64_w, i32_w]
                              rfl
                            refine pu HT_ 28 (some 117) (bb 29 31) ?_
                            refine pu HT_ 29 (some 118) (bb 30 31) ?_
                            refine pu HT_ 30 (some 119) (bb 31 31) ?_
                            refine done_ (done_of HT_.out (by kernel_rfl)) ?_
                            try go_wp2
                            go_ret
                            exact ⟨by first | rfl | (simp [errW_none, errW_some] <;> rfl) | (simp only [← hji87]; first | rfl | (simp [errW_none, errW_some] <;> rfl)) | (simp [*, errW_none, errW_some] <;> rfl), bl HB⟩
                          · replace c91 := Bool.eq_false_iff.mpr c91
                            subst c91
                            have H1 : (if ((Op.bytesLess (((rd_T32 t1090 (ji87)).f1).toList) (((rd_T32 t1090 x11_2).f0).toList)) = true) then (vellumlaw02_CodeWhole.l2 k2 a1 x5_1 t1090 x10_2 (wrap64 (x11_2 + 1))) else (some false)) = some r := by rw [if_neg (show ¬ (false = true) by decide)] at H; exact H
                            clear H
                            have H := H1
                            clear H1
                            by_cases c96 : ((Op.bytesLess (((rd_T32 t1090 (ji87)).f1).toList) (((rd_T32 t1090 x11_2).f0).toList)) = true)
                            · rw [if_pos c96] at H
                              have c96b0 : (Op.bytesLess (((rd_T32 t1090 (ji87)).f1).toList) (((rd_T32 t1090 x11_2).f0).toList)) = true := c96
                              clear c96
                              have H' := am H
                              clear H
                              obtain ⟨Ao97, co97, eo97⟩ := Kd.R_slice HO_9.out
                              subst eo97
                              have p1094 : 0 ≤ (x11_2 : Int) := oda
                              have q1094 : x11_2 < (t1090.length : Int) := oda
                              obtain ⟨ad1094, e1094, hx1094_0, hx1094_1, hx1094_2⟩ := at_T32 (Kd.R_reads' HO_9.out).2.2 x11_2 p1094 q1094
                              (try rw [← Nbq90.out] at hx1094_2)
                              (try rw [← Nbq90.out] at hw1094_2)
                              cases e1094
                              replace p1094 := eq_true p1094
                              replace q1094 := eq_true q1094
                              try go_wp2_with (first | ((with_reducible refine gate_callee (f := 28) rfl ?_); refine goesL_ (some 86) rfl rfl Tryd.func28 (by kernel_rfl) rfl #[.agg #[.string ((rd_T32 t1090 x11_2).f0), .string ((rd_T32 t1090 x11_2).f1), .bool ((rd_T32 t1090 x11_2).f2)], .string a1] rfl ar ?_; (with_reducible refine (code_Has.calls ((rd_T32 t1090 x11_2).f0) ((rd_T32 t1090 x11_2).f1) ((rd_T32 t1090 x11_2).f2) a1 false _ A49.out).mono ?_); rintro e w98 ⟨rfl, hb⟩; refine ⟨_, rfl, ?_⟩; have n0_ := am (Kd.R_below (Kd.rr HO_9.out) hb); have n1_ := sb HB hb; clear HO_9; clear HB; have HO_9 := n0_; have HB := n1_; clear n0_ n1_; (try clear hb); (try clear hb2 hk hi)))
                              have n0_ := am (Kd.R_drew HO_9.out)
                              have n1_ := am (below_drew1 HB.out)
                              clear HO_9
                              clear HB
                              have HO_9 := n0_
                              have HB := n1_
                              clear n0_ n1_
                              have p1101 : 0 ≤ (x11_2 : Int) := oda
                              have q1101 : x11_2 < (t1090.length : Int) := oda
                              obtain ⟨ad1101, e1101, hx1101_0, hx1101_1, hx1101_2⟩ := at_T32 (Kd.R_reads' HO_9.out).2.2 x11_2 p1101 q1101
                              (try rw [← Nbq90.out] at hx1101_2)
                              (try rw [← Nbq90.out] at hw1101_2)
                              obtain rfl : ad1094 = ad1101 := (by injection e1101)
                              replace p1101 := eq_true p1101
                              replace q1101 := eq_true q1101
                              have p1103 : 0 ≤ ((ji87) : Int) := oda
                              have q1103 : (ji87) < (t1090.length : Int) := oda
                              obtain ⟨ad1103, e1103, hx1103_0, hx1103_1, hx1103_2⟩ := at_T32 (Kd.R_reads' HO_9.out).2.2 (ji87) p1103 q1103
                              (try rw [← Nbq90.out] at hx1103_2)
                              (try rw [← Nbq90.out] at hw1103_2)
                              obtain rfl : ad1094 = ad1103 := (by injection e1103)
                              replace p1103 := eq_true p1103
                              replace q1103 := eq_true q1103
                              have p1104 : 0 ≤ (x11_2 : Int) := oda
                              have q1104 : x11_2 < (t1090.length : Int) := oda
                              obtain ⟨ad1104, e1104, hx1104_0, hx1104_1, hx1104_2⟩ := at_T32 (Kd.R_reads' HO_9.out).2.2 x11_2 p1104 q1104
                              (try rw [← Nbq90.out] at hx1104_2)
                              (try rw [← Nbq90.out] at hw1104_2)
                              obtain rfl : ad1094 = ad1104 := (by injection e1104)
                              replace p1104 := eq_true p1104
                              replace q1104 := eq_true q1104
                              have p1105 : 0 ≤ ((ji87) : Int) := oda
                              have q1105 : (ji87) < (t1090.length : Int) := oda
                              obtain ⟨ad1105, e1105, hx1105_0, hx1105_1, hx1105_2⟩ := at_T32 (Kd.R_reads' HO_9.out).2.2 (ji87) p1105 q1105
                              (try rw [← Nbq90.out] at hx1105_2)
                              (try rw [← Nbq90.out] at hw1105_2)
                              obtain rfl : ad1094 = ad1105 := (by injection e1105)
                              replace p1105 := eq_true p1105
                              replace q1105 := eq_true q1105
                              refine start_ (n := 31) (S := fun w' => w'.cell? (ad1094.add ((x11_2).toNat * 3)) = some (.string ((rd_T32 t1090 x11_2).f0)) ∧ w'.cell? ⟨(ad1094.add ((x11_2).toNat * 3)).block, (ad1094.add ((x11_2).toNat * 3)).off + 1, none⟩ = some (.string ((rd_T32 t1090 x11_2).f1)) ∧ w'.cell? ⟨(ad1094.add ((x11_2).toNat * 3)).block, (ad1094.add ((x11_2).toNat * 3)).off + 2, none⟩ = some (.bool ((rd_T32 t1090 x11_2).f2)) ∧ w'.cell? (ad1094.add (((ji87)).toNat * 3)) = some (.string ((rd_T32 t1090 (ji87)).f0)) ∧ w'.cell? ⟨(ad1094.add (((ji87)).toNat * 3)).block, (ad1094.add (((ji87)).toNat * 3)).off + 1, none⟩ = some (.string ((rd_T32 t1090 (ji87)).f1)) ∧ w'.cell? ⟨(ad1094.add (((ji87)).toNat * 3)).block, (ad1094.add (((ji87)).toNat * 3)).off + 2, none⟩ = some (.bool false) ∧ w'.cell? (ad1094.add ((x11_2).toNat * 3)) = some (.string ((rd_T32 t1090 x11_2).f0)) ∧ w'.cell? ⟨(ad1094.add ((x11_2).toNat * 3)).block, (ad1094.add ((x11_2).toNat * 3)).off + 1, none⟩ = some (.string ((rd_T32 t1090 x11_2).f1)) ∧ w'.cell? ⟨(ad1094.add ((x11_2).toNat * 3)).block, (ad1094.add ((x11_2).toNat * 3)).off + 2, none⟩ = some (.bool ((rd_T32 t1090 x11_2).f2)) ∧ w'.cell? (ad1094.add (((ji87)).toNat * 3)) = some (.string ((rd_T32 t1090 (ji87)).f0)) ∧ w'.cell? ⟨(ad1094.add (((ji87)).toNat * 3)).block, (ad1094.add (((ji87)).toNat * 3)).off + 1, none⟩ = some (.string ((rd_T32 t1090 (ji87)).f1)) ∧ w'.cell? ⟨(ad1094.add (((ji87)).toNat * 3)).block, (ad1094.add (((ji87)).toNat * 3)).off + 2, none⟩ = some (.bool (false))) (ds := []) (bb 0 31) (by kernel_rfl) rfl rfl ⟨hx1101_0, hx1101_1, hx1101_2, hx1103_0, hx1103_1, hx1103_2, hx1104_0, hx1104_1, hx1104_2, hx1105_0, hx1105_1, hx1105_2⟩ (fun hHeld => ?_); refine with_tabW vellumlaw02_CodeWhole.tab20 vellumlaw02_CodeWhole.bits20 (fun HT_ HW_ => ?_)
                              generalize w98.drew = w99 at HO_9 HB hx1101_0 hx1101_1 hx1101_2 hx1103_0 hx1103_1 hx1103_2 hx1104_0 hx1104_1 hx1104_2 hx1105_0 hx1105_1 hx1105_2 hHeld ⊢
                              refine pu HT_ 0 (some 89) (bb 1 31) ?_
                              refine pu HT_ 1 (some 90) (bb 2 31) ?_
                              refine pu HT_ 2 (some 91) (bb 3 31) ?_
                              refine tk HT_ HW_ hHeld 3 (some 92) (bb 4 31) ?_
                              refine one_ (i := 4) (N := some 93) (bb 5 31) rfl rfl (one_of HT_.out (by kernel_rfl)) (by decide) (fun K hK => ?_)
                              refine goes_ Tryd.func30 (by kernel_rfl) rfl #[.agg #[.string ((rd_T32 t1090 x11_2).f0), .string ((rd_T32 t1090 x11_2).f1), .bool ((rd_T32 t1090 x11_2).f2)]] (by rfl) rfl rfl ar ?_
                              with_reducible refine (code_Empty.calls ((rd_T32 t1090 x11_2).f0) ((rd_T32 t1090 x11_2).f1) ((rd_T32 t1090 x11_2).f2) false _ A80.out).mono ?_
                              rintro e w100 ⟨rfl, hb⟩
                              have HS0_ := (hb.cell (World.block_lt_of_cell? _ _ (hHeld.1))).trans (hHeld.1)
                              have HS1_ := (hb.cell (World.block_lt_of_cell? _ _ (hHeld.2.1))).trans (hHeld.2.1)
                              have HS2_ := (hb.cell (World.block_lt_of_cell? _ _ (hHeld.2.2.1))).trans (hHeld.2.2.1)
                              have HS3_ := (hb.cell (World.block_lt_of_cell? _ _ (hHeld.2.2.2.1))).trans (hHeld.2.2.2.1)
                              have HS4_ := (hb.cell (World.block_lt_of_cell? _ _ (hHeld.2.2.2.2.1))).trans (hHeld.2.2.2.2.1)
                              have HS5_ := (hb.cell (World.block_lt_of_cell? _ _ (hHeld.2.2.2.2.2.1))).trans (hHeld.2.2.2.2.2.1)
                              have HS6_ := (hb.cell (World.block_lt_of_cell? _ _ (hHeld.2.2.2.2.2.2.1))).trans (hHeld.2.2.2.2.2.2.1)
                              have HS7_ := (hb.cell (World.block_lt_of_cell? _ _ (hHeld.2.2.2.2.2.2.2.1))).trans (hHeld.2.2.2.2.2.2.2.1)
                              have HS8_ := (hb.cell (World.block_lt_of_cell? _ _ (hHeld.2.2.2.2.2.2.2.2.1))).trans (hHeld.2.2.2.2.2.2.2.2.1)
                              have HS9_ := (hb.cell (World.block_lt_of_cell? _ _ (hHeld.2.2.2.2.2.2.2.2.2.1))).trans (hHeld.2.2.2.2.2.2.2.2.2.1)
                              have HS10_ := (hb.cell (World.block_lt_of_cell? _ _ (hHeld.2.2.2.2.2.2.2.2.2.2.1))).trans (hHeld.2.2.2.2.2.2.2.2.2.2.1)
                              have HS11_ := (hb.cell (World.block_lt_of_cell? _ _ (hHeld.2.2.2.2.2.2.2.2.2.2.2))).trans (hHeld.2.2.2.2.2.2.2.2.2.2.2)
                              refine ⟨_, rfl, ?_⟩
                              have n0_ := am (Kd.R_below (Kd.rr HO_9.out) hb)
                              have n1_ := sb HB hb
                              clear HO_9
                              clear HB
                              have HO_9 := n0_
                              have HB := n1_
                              clear n0_ n1_
                              (try clear hb)
                              (try clear hb2)
                              (try clear hk)
                              (try clear hi)
                              refine hK.out _ _ ⟨HS0_, HS1_, HS2_, HS3_, HS4_, HS5_, HS6_, HS7_, HS8_, HS9_, HS10_, HS11_⟩ (fun hHeld => ?_)
                              clear hK K
                              refine norm_ (a' := ?_) ?_ ?_
                              rotate_left
                              · show Act.put _ (some 93) _ = _
                                simp only [Act.put, List.setIfInBounds_toArray, List.set_cons_zero, List.set_cons_succ, i64_w, i32_w]
                                rfl
                              refine pu HT_ 5 (some 94) (bb 6 31) ?_
                              refine pu HT_ 6 (some 95) (bb 7 31) ?_
                              refine pu HT_ 7 (some 96) (bb 8 31) ?_
                              refine pu HT_ 8 (some 97) (bb 9 31) ?_
                              refine pu HT_ 9 (some 98) (bb 10 31) ?_
                              refine pu HT_ 10 (some 99) (bb 11 31) ?_
                              refine pu HT_ 11 (some 100) (bb 12 31) ?_
                              refine pu HT_ 12 (some 101) (bb 13 31) ?_
                              refine pu HT_ 13 (some 102) (bb 14 31) ?_
                              refine tk HT_ HW_ hHeld 14 (some 103) (bb 15 31) ?_
                              refine pu HT_ 15 (some 104) (bb 16 31) ?_
                              refine pu HT_ 16 (some 105) (bb 17 31) ?_
                              refine pu HT_ 17 (some 106) (bb 18 31) ?_
                              refine pu HT_ 18 (some 107) (bb 19 31) ?_
                              refine pu HT_ 19 (some 108) (bb 20 31) ?_
                              refine pu HT_ 21 (some 110) (bs 31 3145727) ?_
                              refine pu HT_ 22 (some 111) (bs 31 7340031) ?_
                              refine pu HT_ 23 (some 112) (bs 31 15728639) ?_
                              refine pu HT_ 24 (some 113) (bs 31 32505855) ?_
                              refine pu HT_ 25 (some 114) (bs 31 66060287) ?_
                              refine tk HT_ HW_ hHeld 20 (some 109) (bb 26 31) ?_
                              refine tk HT_ HW_ hHeld 26 (some 115) (bb 27 31) ?_
                              refine pu HT_ 27 (some 116) (bb 28 31) ?_
                              refine pu HT_ 28 (some 117) (bb 29 31) ?_
                              refine pu HT_ 29 (some 118) (bb 30 31) ?_
                              refine pu HT_ 30 (some 119) (bb 31 31) ?_
                              refine done_ (done_of HT_.out (by kernel_rfl)) ?_
                              try go_wp2
                              go_roundg k2
                              case measure => have := HK1.out; have := HK2.out; omega
                              case rel => exact ⟨(x10_2), (wrap64 (x11_2 + 1)), eb, eb, H', ⟨by have := HK1.out; have := HK2.out; omega⟩, ⟨Kd.rr HO_9.out⟩, ⟨bl HB⟩⟩
                            · rw [if_neg c96] at H
                              have c96b0 : (Op.bytesLess (((rd_T32 t1090 (ji87)).f1).toList) (((rd_T32 t1090 x11_2).f0).toList)) = false := by simpa using c96
                              clear c96
                              obtain rfl := Option.some.inj H
                              obtain ⟨Ao101, co101, eo101⟩ := Kd.R_slice HO_9.out
                              subst eo101
                              have p1094 : 0 ≤ (x11_2 : Int) := oda
                              have q1094 : x11_2 < (t1090.length : Int) := oda
                              obtain ⟨ad1094, e1094, hx1094_0, hx1094_1, hx1094_2⟩ := at_T32 (Kd.R_reads' HO_9.out).2.2 x11_2 p1094 q1094
                              (try rw [← Nbq90.out] at hx1094_2)
                              (try rw [← Nbq90.out] at hw1094_2)
                              cases e1094
                              replace p1094 := eq_true p1094
                              replace q1094 := eq_true q1094
                              try go_wp2_with (first | ((with_reducible refine gate_callee (f := 28) rfl ?_); refine goesL_ (some 86) rfl rfl Tryd.func28 (by kernel_rfl) rfl #[.agg #[.string ((rd_T32 t1090 x11_2).f0), .string ((rd_T32 t1090 x11_2).f1), .bool ((rd_T32 t1090 x11_2).f2)], .string a1] rfl ar ?_; (with_reducible refine (code_Has.calls ((rd_T32 t1090 x11_2).f0) ((rd_T32 t1090 x11_2).f1) ((rd_T32 t1090 x11_2).f2) a1 false _ A49.out).mono ?_); rintro e w102 ⟨rfl, hb⟩; refine ⟨_, rfl, ?_⟩; have n0_ := am (Kd.R_below (Kd.rr HO_9.out) hb); have n1_ := sb HB hb; clear HO_9; clear HB; have HO_9 := n0_; have HB := n1_; clear n0_ n1_; (try clear hb); (try clear hb2 hk hi)))
                              have n0_ := am (Kd.R_drew HO_9.out)
                              have n1_ := am (below_drew1 HB.out)
                              clear HO_9
                              clear HB
                              have HO_9 := n0_
                              have HB := n1_
                              clear n0_ n1_
                              have p1101 : 0 ≤ (x11_2 : Int) := oda
                              have q1101 : x11_2 < (t1090.length : Int) := oda
                              obtain ⟨ad1101, e1101, hx1101_0, hx1101_1, hx1101_2⟩ := at_T32 (Kd.R_reads' HO_9.out).2.2 x11_2 p1101 q1101
                              (try rw [← Nbq90.out] at hx1101_2)
                              (try rw [← Nbq90.out] at hw1101_2)
                              obtain rfl : ad1094 = ad1101 := (by injection e1101)
                              replace p1101 := eq_true p1101
                              replace q1101 := eq_true q1101
                              have p1103 : 0 ≤ ((ji87) : Int) := oda
                              have q1103 : (ji87) < (t1090.length : Int) := oda
                              obtain ⟨ad1103, e1103, hx1103_0, hx1103_1, hx1103_2⟩ := at_T32 (Kd.R_reads' HO_9.out).2.2 (ji87) p1103 q1103
                              (try rw [← Nbq90.out] at hx1103_2)
                              (try rw [← Nbq90.out] at hw1103_2)
                              obtain rfl : ad1094 = ad1103 := (by injection e1103)
                              replace p1103 := eq_true p1103
                              replace q1103 := eq_true q1103
                              have p1104 : 0 ≤ (x11_2 : Int) := oda
                              have q1104 : x11_2 < (t1090.length : Int) := oda
                              obtain ⟨ad1104, e1104, hx1104_0, hx1104_1, hx1104_2⟩ := at_T32 (Kd.R_reads' HO_9.out).2.2 x11_2 p1104 q1104
                              (try rw [← Nbq90.out] at hx1104_2)
                              (try rw [← Nbq90.out] at hw1104_2)
                              obtain rfl : ad1094 = ad1104 := (by injection e1104)
                              replace p1104 := eq_true p1104
                              replace q1104 := eq_true q1104
                              have p1105 : 0 ≤ ((ji87) : Int) := oda
                              have q1105 : (ji87) < (t1090.length : Int) := oda
                              obtain ⟨ad1105, e1105, hx1105_0, hx1105_1, hx1105_2⟩ := at_T32 (Kd.R_reads' HO_9.out).2.2 (ji87) p1105 q1105
                              (try rw [← Nbq90.out] at hx1105_2)
                              (try rw [← Nbq90.out] at hw1105_2)
                              obtain rfl : ad1094 = ad1105 := (by injection e1105)
                              replace p1105 := eq_true p1105
                              replace q1105 := eq_true q1105
                              refine start_ (n := 31) (S := fun w' => w'.cell? (ad1094.add ((x11_2).toNat * 3)) = some (.string ((rd_T32 t1090 x11_2).f0)) ∧ w'.cell? ⟨(ad1094.add ((x11_2).toNat * 3)).block, (ad1094.add ((x11_2).toNat * 3)).off + 1, none⟩ = some (.string ((rd_T32 t1090 x11_2).f1)) ∧ w'.cell? ⟨(ad1094.add ((x11_2).toNat * 3)).block, (ad1094.add ((x11_2).toNat * 3)).off + 2, none⟩ = some (.bool ((rd_T32 t1090 x11_2).f2)) ∧ w'.cell? (ad1094.add (((ji87)).toNat * 3)) = some (.string ((rd_T32 t1090 (ji87)).f0)) ∧ w'.cell? ⟨(ad1094.add (((ji87)).toNat * 3)).block, (ad1094.add (((ji87)).toNat * 3)).off + 1, none⟩ = some (.string ((rd_T32 t1090 (ji87)).f1)) ∧ w'.cell? ⟨(ad1094.add (((ji87)).toNat * 3)).block, (ad1094.add (((ji87)).toNat * 3)).off + 2, none⟩ = some (.bool false) ∧ w'.cell? (ad1094.add ((x11_2).toNat * 3)) = some (.string ((rd_T32 t1090 x11_2).f0)) ∧ w'.cell? ⟨(ad1094.add ((x11_2).toNat * 3)).block, (ad1094.add ((x11_2).toNat * 3)).off + 1, none⟩ = some (.string ((rd_T32 t1090 x11_2).f1)) ∧ w'.cell? ⟨(ad1094.add ((x11_2).toNat * 3)).block, (ad1094.add ((x11_2).toNat * 3)).off + 2, none⟩ = some (.bool ((rd_T32 t1090 x11_2).f2)) ∧ w'.cell? (ad1094.add (((ji87)).toNat * 3)) = some (.string ((rd_T32 t1090 (ji87)).f0)) ∧ w'.cell? ⟨(ad1094.add (((ji87)).toNat * 3)).block, (ad1094.add (((ji87)).toNat * 3)).off + 1, none⟩ = some (.string ((rd_T32 t1090 (ji87)).f1)) ∧ w'.cell? ⟨(ad1094.add (((ji87)).toNat * 3)).block, (ad1094.add (((ji87)).toNat * 3)).off + 2, none⟩ = some (.bool (false))) (ds := []) (bb 0 31) (by kernel_rfl) rfl rfl ⟨hx1101_0, hx1101_1, hx1101_2, hx1103_0, hx1103_1, hx1103_2, hx1104_0, hx1104_1, hx1104_2, hx1105_0, hx1105_1, hx1105_2⟩ (fun hHeld => ?_); refine with_tabW vellumlaw02_CodeWhole.tab20 vellumlaw02_CodeWhole.bits20 (fun HT_ HW_ => ?_)
                              generalize w102.drew = w103 at HO_9 HB hx1101_0 hx1101_1 hx1101_2 hx1103_0 hx1103_1 hx1103_2 hx1104_0 hx1104_1 hx1104_2 hx1105_0 hx1105_1 hx1105_2 hHeld ⊢
                              refine pu HT_ 0 (some 89) (bb 1 31) ?_
                              refine pu HT_ 1 (some 90) (bb 2 31) ?_
                              refine pu HT_ 2 (some 91) (bb 3 31) ?_
                              refine tk HT_ HW_ hHeld 3 (some 92) (bb 4 31) ?_
                              refine one_ (i := 4) (N := some 93) (bb 5 31) rfl rfl (one_of HT_.out (by kernel_rfl)) (by decide) (fun K hK => ?_)
                              refine goes_ Tryd.func30 (by kernel_rfl) rfl #[.agg #[.string ((rd_T32 t1090 x11_2).f0), .string ((rd_T32 t1090 x11_2).f1), .bool ((rd_T32 t1090 x11_2).f2)]] (by rfl) rfl rfl ar ?_
                              with_reducible refine (code_Empty.calls ((rd_T32 t1090 x11_2).f0) ((rd_T32 t1090 x11_2).f1) ((rd_T32 t1090 x11_2).f2) false _ A80.out).mono ?_
                              rintro e w104 ⟨rfl, hb⟩
                              have HS0_ := (hb.cell (World.block_lt_of_cell? _ _ (hHeld.1))).trans (hHeld.1)
                              have HS1_ := (hb.cell (World.block_lt_of_cell? _ _ (hHeld.2.1))).trans (hHeld.2.1)
                              have HS2_ := (hb.cell (World.block_lt_of_cell? _ _ (hHeld.2.2.1))).trans (hHeld.2.2.1)
                              have HS3_ := (hb.cell (World.block_lt_of_cell? _ _ (hHeld.2.2.2.1))).trans (hHeld.2.2.2.1)
                              have HS4_ := (hb.cell (World.block_lt_of_cell? _ _ (hHeld.2.2.2.2.1))).trans (hHeld.2.2.2.2.1)
                              have HS5_ := (hb.cell (World.block_lt_of_cell? _ _ (hHeld.2.2.2.2.2.1))).trans (hHeld.2.2.2.2.2.1)
                              have HS6_ := (hb.cell (World.block_lt_of_cell? _ _ (hHeld.2.2.2.2.2.2.1))).trans (hHeld.2.2.2.2.2.2.1)
                              have HS7_ := (hb.cell (World.block_lt_of_cell? _ _ (hHeld.2.2.2.2.2.2.2.1))).trans (hHeld.2.2.2.2.2.2.2.1)
                              have HS8_ := (hb.cell (World.block_lt_of_cell? _ _ (hHeld.2.2.2.2.2.2.2.2.1))).trans (hHeld.2.2.2.2.2.2.2.2.1)
                              have HS9_ := (hb.cell (World.block_lt_of_cell? _ _ (hHeld.2.2.2.2.2.2.2.2.2.1))).trans (hHeld.2.2.2.2.2.2.2.2.2.1)
                              have HS10_ := (hb.cell (World.block_lt_of_cell? _ _ (hHeld.2.2.2.2.2.2.2.2.2.2.1))).trans (hHeld.2.2.2.2.2.2.2.2.2.2.1)
                              have HS11_ := (hb.cell (World.block_lt_of_cell? _ _ (hHeld.2.2.2.2.2.2.2.2.2.2.2))).trans (hHeld.2.2.2.2.2.2.2.2.2.2.2)
                              refine ⟨_, rfl, ?_⟩
                              have n0_ := am (Kd.R_below (Kd.rr HO_9.out) hb)
                              have n1_ := sb HB hb
                              clear HO_9
                              clear HB
                              have HO_9 := n0_
                              have HB := n1_
                              clear n0_ n1_
                              (try clear hb)
                              (try clear hb2)
                              (try clear hk)
                              (try clear hi)
                              refine hK.out _ _ ⟨HS0_, HS1_, HS2_, HS3_, HS4_, HS5_, HS6_, HS7_, HS8_, HS9_, HS10_, HS11_⟩ (fun hHeld => ?_)
                              clear hK K
                              refine norm_ (a' := ?_) ?_ ?_
                              rotate_left
                              · show Act.put _ (some 93) _ = _
                                simp only [Act.put, List.setIfInBounds_toArray, List.set_cons_zero, List.set_cons_succ, i64_w, i32_w]
                                rfl
                              refine pu HT_ 5 (some 94) (bb 6 31) ?_
                              refine pu HT_ 6 (some 95) (bb 7 31) ?_
                              refine pu HT_ 7 (some 96) (bb 8 31) ?_
                              refine pu HT_ 8 (some 97) (bb 9 31) ?_
                              refine pu HT_ 9 (some 98) (bb 10 31) ?_
                              refine pu HT_ 10 (some 99) (bb 11 31) ?_
                              refine pu HT_ 11 (some 100) (bb 12 31) ?_
                              refine pu HT_ 12 (some 101) (bb 13 31) ?_
                              refine pu HT_ 13 (some 102) (bb 14 31) ?_
                              refine tk HT_ HW_ hHeld 14 (some 103) (bb 15 31) ?_
                              refine pu HT_ 15 (some 104) (bb 16 31) ?_
                              refine pu HT_ 16 (some 105) (bb 17 31) ?_
                              refine pu HT_ 17 (some 106) (bb 18 31) ?_
                              refine pu HT_ 18 (some 107) (bb 19 31) ?_
                              refine pu HT_ 19 (some 108) (bb 20 31) ?_
                              refine pu HT_ 21 (some 110) (bs 31 3145727) ?_
                              refine pu HT_ 22 (some 111) (bs 31 7340031) ?_
                              refine pu HT_ 23 (some 112) (bs 31 15728639) ?_
                              refine pu HT_ 24 (some 113) (bs 31 32505855) ?_
                              refine pu HT_ 25 (some 114) (bs 31 66060287) ?_
                              refine tk HT_ HW_ hHeld 20 (some 109) (bb 26 31) ?_
                              refine tk HT_ HW_ hHeld 26 (some 115) (bb 27 31) ?_
                              refine pu HT_ 27 (some 116) (bb 28 31) ?_
                              refine pu HT_ 28 (some 117) (bb 29 31) ?_
                              refine pu HT_ 29 (some 118) (bb 30 31) ?_
                              refine pu HT_ 30 (some 119) (bb 31 31) ?_
                              refine done_ (done_of HT_.out (by kernel_rfl)) ?_
                              try go_wp2
                              go_ret
                              exact ⟨by first | rfl | (simp [errW_none, errW_some] <;> rfl) | (simp only [← hji87]; first | rfl | (simp [errW_none, errW_some] <;> rfl)) | (simp [*, errW_none, errW_some] <;> rfl), bl HB⟩
                        · rw [if_neg c89] at H
                          exact absurd H (by simp)
                      · rw [if_neg c88] at H
                        exact absurd H (by simp)
                    · rw [if_neg c86] at H
                      have c86b0 : decide (0 < x11_2) = false := decide_eq_false c86
                      clear c86
                      have H' := am H
                      clear H
                      obtain ⟨Ao105, co105, eo105⟩ := Kd.R_slice HO_9.out
                      subst eo105
                      have p1094 : 0 ≤ (x11_2 : Int) := oda
                      have q1094 : x11_2 < (t1090.length : Int) := oda
                      obtain ⟨ad1094, e1094, hx1094_0, hx1094_1, hx1094_2⟩ := at_T32 (Kd.R_reads' HO_9.out).2.2 x11_2 p1094 q1094
                      cases e1094
                      replace p1094 := eq_true p1094
                      replace q1094 := eq_true q1094
                      try go_wp2_with (first | ((with_reducible refine gate_callee (f := 28) rfl ?_); refine goesL_ (some 86) rfl rfl Tryd.func28 (by kernel_rfl) rfl #[.agg #[.string ((rd_T32 t1090 x11_2).f0), .string ((rd_T32 t1090 x11_2).f1), .bool ((rd_T32 t1090 x11_2).f2)], .string a1] rfl ar ?_; (with_reducible refine (code_Has.calls ((rd_T32 t1090 x11_2).f0) ((rd_T32 t1090 x11_2).f1) ((rd_T32 t1090 x11_2).f2) a1 false _ A49.out).mono ?_); rintro e w106 ⟨rfl, hb⟩; refine ⟨_, rfl, ?_⟩; have n0_ := am (Kd.R_below (Kd.rr HO_9.out) hb); have n1_ := sb HB hb; clear HO_9; clear HB; have HO_9 := n0_; have HB := n1_; clear n0_ n1_; (try clear hb); (try clear hb2 hk hi)))
                      have n0_ := am (Kd.R_drew HO_9.out)
                      have n1_ := am (below_drew1 HB.out)
                      clear HO_9
                      clear HB
                      have HO_9 := n0_
                      have HB := n1_
                      clear n0_ n1_
                      have p1101 : 0 ≤ (x11_2 : Int) := oda
                      have q1101 : x11_2 < (t1090.length : Int) := oda
                      obtain ⟨ad1101, e1101, hx1101_0, hx1101_1, hx1101_2⟩ := at_T32 (Kd.R_reads' HO_9.out).2.2 x11_2 p1101 q1101
                      obtain rfl : ad1094 = ad1101 := (by injection e1101)
                      replace p1101 := eq_true p1101
                      replace q1101 := eq_true q1101
                      refine start_ (n := 31) (S := fun w' => w'.cell? (ad1094.add ((x11_2).toNat * 3)) = some (.string ((rd_T32 t1090 x11_2).f0)) ∧ w'.cell? ⟨(ad1094.add ((x11_2).toNat * 3)).block, (ad1094.add ((x11_2).toNat * 3)).off + 1, none⟩ = some (.string ((rd_T32 t1090 x11_2).f1)) ∧ w'.cell? ⟨(ad1094.add ((x11_2).toNat * 3)).block, (ad1094.add ((x11_2).toNat * 3)).off + 2, none⟩ = some (.bool ((rd_T32 t1090 x11_2).f2))) (ds := []) (bb 0 31) (by kernel_rfl) rfl rfl ⟨hx1101_0, hx1101_1, hx1101_2⟩ (fun hHeld => ?_); refine with_tabW vellumlaw02_CodeWhole.tab20 vellumlaw02_CodeWhole.bits20 (fun HT_ HW_ => ?_)
                      generalize w106.drew = w107 at HO_9 HB hx1101_0 hx1101_1 hx1101_2 hHeld ⊢
                      refine pu HT_ 0 (some 89) (bb 1 31) ?_
                      refine pu HT_ 1 (some 90) (bb 2 31) ?_
                      refine pu HT_ 2 (some 91) (bb 3 31) ?_
                      refine tk HT_ HW_ hHeld 3 (some 92) (bb 4 31) ?_
                      refine one_ (i := 4) (N := some 93) (bb 5 31) rfl rfl (one_of HT_.out (by kernel_rfl)) (by decide) (fun K hK => ?_)
                      refine goes_ Tryd.func30 (by kernel_rfl) rfl #[.agg #[.string ((rd_T32 t1090 x11_2).f0), .string ((rd_T32 t1090 x11_2).f1), .bool ((rd_T32 t1090 x11_2).f2)]] (by rfl) rfl rfl ar ?_
                      with_reducible refine (code_Empty.calls ((rd_T32 t1090 x11_2).f0) ((rd_T32 t1090 x11_2).f1) ((rd_T32 t1090 x11_2).f2) false _ A80.out).mono ?_
                      rintro e w108 ⟨rfl, hb⟩
                      have HS0_ := (hb.cell (World.block_lt_of_cell? _ _ (hHeld.1))).trans (hHeld.1)
                      have HS1_ := (hb.cell (World.block_lt_of_cell? _ _ (hHeld.2.1))).trans (hHeld.2.1)
                      have HS2_ := (hb.cell (World.block_lt_of_cell? _ _ (hHeld.2.2))).trans (hHeld.2.2)
                      refine ⟨_, rfl, ?_⟩
                      have n0_ := am (Kd.R_below (Kd.rr HO_9.out) hb)
                      have n1_ := sb HB hb
                      clear HO_9
                      clear HB
                      have HO_9 := n0_
                      have HB := n1_
                      clear n0_ n1_
                      (try clear hb)
                      (try clear hb2)
                      (try clear hk)
                      (try clear hi)
                      refine hK.out _ _ ⟨HS0_, HS1_, HS2_⟩ (fun hHeld => ?_)
                      clear hK K
                      refine norm_ (a' := ?_) ?_ ?_
                      rotate_left
                      · show Act.put _ (some 93) _ = _
                        simp only [Act.put, List.setIfInBounds_toArray, List.set_cons_zero, List.set_cons_succ, i64_w, i32_w]
                        rfl
                      refine pu HT_ 5 (some 94) (bb 6 31) ?_
                      refine pu HT_ 6 (some 95) (bb 7 31) ?_
                      refine pu HT_ 7 (some 96) (bb 8 31) ?_
                      refine pu HT_ 8 (some 97) (bb 9 31) ?_
                      refine pure_ (i := 9) (N := some 98) (v := undef) (a' := ?_) (bb 10 31) rfl rfl (any_of HT_.out (by kernel_rfl)) (fun _ _ _ h => h) (Or.inr ⟨by rfl, rfl⟩) ?_ ?_
                      rotate_left
                      · simp only [Act.put, List.setIfInBounds_toArray, List.set_cons_zero, List.set_cons_succ, i64_w, i32_w]
                        rfl
                      refine pure_ (i := 10) (N := some 99) (v := undef) (a' := ?_) (bb 11 31) rfl rfl (any_of HT_.out (by kernel_rfl)) (fun _ _ _ h => h) (Or.inr ⟨by rfl, rfl⟩) ?_ ?_
                      rotate_left
                      · simp only [Act.put, List.setIfInBounds_toArray, List.set_cons_zero, List.set_cons_succ, i64_w, i32_w]
                        rfl
                      refine pure_ (i := 11) (N := some 100) (v := undef) (a' := ?_) (bb 12 31) rfl rfl (any_of HT_.out (by kernel_rfl)) (fun _ _ _ h => h) (Or.inr ⟨by rfl, rfl⟩) ?_ ?_
                      rotate_left
                      · simp only [Act.put, List.setIfInBounds_toArray, List.set_cons_zero, List.set_cons_succ, i64_w, i32_w]
                        rfl
                      refine pure_ (i := 12) (N := some 101) (v := undef) (a' := ?_) (bb 13 31) rfl rfl (any_of HT_.out (by kernel_rfl)) (fun _ _ _ h => h) (Or.inr ⟨by rfl, rfl⟩) ?_ ?_
                      rotate_left
                      · simp only [Act.put, List.setIfInBounds_toArray, List.set_cons_zero, List.set_cons_succ, i64_w, i32_w]
                        rfl
                      refine pure_ (i := 13) (N := some 102) (v := undef) (a' := ?_) (bb 14 31) rfl rfl (any_of HT_.out (by kernel_rfl)) (fun _ _ _ h => h) (Or.inr ⟨by rfl, rfl⟩) ?_ ?_
                      rotate_left
                      · simp only [Act.put, List.setIfInBounds_toArray, List.set_cons_zero, List.set_cons_succ, i64_w, i32_w]
                        rfl
                      refine pure_ (i := 14) (N := some 103) (v := undef) (a' := ?_) (bb 15 31) rfl rfl (any_of HT_.out (by kernel_rfl)) (fun _ _ _ h => h) (Or.inr ⟨by rfl, rfl⟩) ?_ ?_
                      rotate_left
                      · simp only [Act.put, List.setIfInBounds_toArray, List.set_cons_zero, List.set_cons_succ, i64_w, i32_w]
                        rfl
                      refine pure_ (i := 15) (N := some 104) (v := undef) (a' := ?_) (bb 16 31) rfl rfl (any_of HT_.out (by kernel_rfl)) (fun _ _ _ h => h) (Or.inr ⟨by rfl, rfl⟩) ?_ ?_
                      rotate_left
                      · simp only [Act.put, List.setIfInBounds_toArray, List.set_cons_zero, List.set_cons_succ, i64_w, i32_w]
                        rfl
                      refine pure_ (i := 16) (N := some 105) (v := undef) (a' := ?_) (bb 17 31) rfl rfl (any_of HT_.out (by kernel_rfl)) (fun _ _ _ h => h) (Or.inr ⟨by rfl, rfl⟩) ?_ ?_
                      rotate_left
                      · simp only [Act.put, List.setIfInBounds_toArray, List.set_cons_zero, List.set_cons_succ, i64_w, i32_w]
                        rfl
                      refine pure_ (i := 17) (N := some 106) (v := undef) (a' := ?_) (bb 18 31) rfl rfl (any_of HT_.out (by kernel_rfl)) (fun _ _ _ h => h) (Or.inr ⟨by rfl, rfl⟩) ?_ ?_
                      rotate_left
                      · simp only [Act.put, List.setIfInBounds_toArray, List.set_cons_zero, List.set_cons_succ, i64_w, i32_w]
                        rfl
                      refine pure_ (i := 18) (N := some 107) (v := undef) (a' := ?_) (bb 19 31) rfl rfl (any_of HT_.out (by kernel_rfl)) (fun _ _ _ h => h) (Or.inr ⟨by rfl, rfl⟩) ?_ ?_
                      rotate_left
                      · simp only [Act.put, List.setIfInBounds_toArray, List.set_cons_zero, List.set_cons_succ, i64_w, i32_w]
                        rfl
                      refine pure_ (i := 19) (N := some 108) (v := undef) (a' := ?_) (bb 20 31) rfl rfl (any_of HT_.out (by kernel_rfl)) (fun _ _ _ h => h) (Or.inr ⟨by rfl, rfl⟩) ?_ ?_
                      rotate_left
                      · simp only [Act.put, List.setIfInBounds_toArray, List.set_cons_zero, List.set_cons_succ, i64_w, i32_w]
                        rfl
                      refine pure_ (i := 20) (N := some 109) (v := undef) (a' := ?_) (bb 21 31) rfl rfl (any_of HT_.out (by kernel_rfl)) (fun _ _ _ h => h) (Or.inr ⟨by rfl, rfl⟩) ?_ ?_
                      rotate_left
                      · simp only [Act.put, List.setIfInBounds_toArray, List.set_cons_zero, List.set_cons_succ, i64_w, i32_w]
                        rfl
                      refine pure_ (i := 21) (N := some 110) (v := undef) (a' := ?_) (bb 22 31) rfl rfl (any_of HT_.out (by kernel_rfl)) (fun _ _ _ h => h) (Or.inr ⟨by rfl, rfl⟩) ?_ ?_
                      rotate_left
                      · simp only [Act.put, List.setIfInBounds_toArray, List.set_cons_zero, List.set_cons_succ, i64_w, i32_w]
                        rfl
                      refine pure_ (i := 22) (N := some 111) (v := undef) (a' := ?_) (bb 23 31) rfl rfl (any_of HT_.out (by kernel_rfl)) (fun _ _ _ h => h) (Or.inr ⟨by rfl, rfl⟩) ?_ ?_
                      rotate_left
                      · simp only [Act.put, List.setIfInBounds_toArray, List.set_cons_zero, List.set_cons_succ, i64_w, i32_w]
                        rfl
                      refine pure_ (i := 23) (N := some 112) (v := undef) (a' := ?_) (bb 24 31) rfl rfl (any_of HT_.out (by kernel_rfl)) (fun _ _ _ h => h) (Or.inr ⟨by rfl, rfl⟩) ?_ ?_
                      rotate_left
                      · simp only [Act.put, List.setIfInBounds_toArray, List.set_cons_zero, List.set_cons_succ, i64_w, i32_w]
                        rfl
                      refine pure_ (i := 24) (N := some 113) (v := undef) (a' := ?_) (bb 25 31) rfl rfl (any_of HT_.out (by kernel_rfl)) (fun _ _ _ h => h) (Or.inr ⟨by rfl, rfl⟩) ?_ ?_
                      rotate_left
                      · simp only [Act.put, List.setIfInBounds_toArray, List.set_cons_zero, List.set_cons_succ, i64_w, i32_w]
                        rfl
                      refine pure_ (i := 25) (N := some 114) (v := undef) (a' := ?_) (bb 26 31) rfl rfl (any_of HT_.out (by kernel_rfl)) (fun _ _ _ h => h) (Or.inr ⟨by rfl, rfl⟩) ?_ ?_
                      rotate_left
                      · simp only [Act.put, List.setIfInBounds_toArray, List.set_cons_zero, List.set_cons_succ, i64_w, i32_w]
                        rfl
                      refine pure_ (i := 26) (N := some 115) (v := undef) (a' := ?_) (bb 27 31) rfl rfl (any_of HT_.out (by kernel_rfl)) (fun _ _ _ h => h) (Or.inr ⟨by rfl, rfl⟩) ?_ ?_
                      rotate_left
                      · simp only [Act.put, List.setIfInBounds_toArray, List.set_cons_zero, List.set_cons_succ, i64_w, i32_w]
                        rfl
                      refine pure_ (i := 27) (N := some 116) (v := undef) (a' := ?_) (bb 28 31) rfl rfl (any_of HT_.out (by kernel_rfl)) (fun _ _ _ h => h) (Or.inr ⟨by rfl, rfl⟩) ?_ ?_
                      rotate_left
                      · simp only [Act.put, List.setIfInBounds_toArray, List.set_cons_zero, List.set_cons_succ, i64_w, i32_w]
                        rfl
                      refine pure_ (i := 28) (N := some 117) (v := undef) (a' := ?_) (bb 29 31) rfl rfl (any_of HT_.out (by kernel_rfl)) (fun _ _ _ h => h) (Or.inr ⟨by rfl, rfl⟩) ?_ ?_
                      rotate_left
                      · simp only [Act.put, List.setIfInBounds_toArray, List.set_cons_zero, List.set_cons_succ, i64_w, i32_w]
                        rfl
                      refine pu HT_ 29 (some 118) (bb 30 31) ?_
                      refine pu HT_ 30 (some 119) (bb 31 31) ?_
                      refine done_ (done_of HT_.out (by kernel_rfl)) ?_
                      try go_wp2
                      go_roundg k2
                      case measure => have := HK1.out; have := HK2.out; omega
                      case rel => exact ⟨(x10_2), (wrap64 (x11_2 + 1)), eb, eb, H', ⟨by have := HK1.out; have := HK2.out; omega⟩, ⟨Kd.rr HO_9.out⟩, ⟨bl HB⟩⟩
              · rw [if_neg c48] at H
                exact absurd H (by simp)
            · rw [if_neg c47] at H
              have c47b0 : decide (x11_2 < (t1090.length : Int)) = false := decide_eq_false c47
              clear c47
              by_cases c109 : ((decide (x5_1 > 0)) == (x10_2 == 1)) = true
              · rw [if_pos c109] at H
                have c109b0 : ((decide (x5_1 > 0)) == (x10_2 == 1)) = true := c109
                (try (have c109b1 : decide ((decide (x5_1 > 0)) = (x10_2 == 1)) = true := by simpa using c109))
                (try (have c109b2 : ((decide (x5_1 > 0)) == (x10_2 == 1)) = true := by simpa using c109))
                clear c109
                by_cases c110 : x10_2 < 2
                · rw [if_pos c110] at H
                  have c110b0 : decide (x10_2 < 2) = true := decide_eq_true c110
                  clear c110
                  replace H := Option.bind_eq_some_iff.mp H
                  obtain ⟨t1093, A1110, H⟩ := H
                  replace H : (some t1093) = some r := H
                  have A111 := am A1110
                  clear A1110
                  obtain rfl := Option.some.inj H
                  obtain ⟨Ao112, co112, eo112⟩ := Kd.R_slice HO_9.out
                  subst eo112
                  go_wp2_with (first | (go_at_call 23; (with_reducible refine (vellumlaw02_awake.calls k2  t1093 _ (Glob.below HG.out (bl HB)) A111.out).mono ?_); rintro e w113 ⟨rfl, hb⟩; have n0_ := am (Kd.R_below (Kd.rr HO_9.out) hb); have n1_ := sb HB hb; clear HO_9; clear HB; have HO_9 := n0_; have HB := n1_; clear n0_ n1_; (try clear hb); (try clear hb2 hk hi)))
                  go_ret
                  exact ⟨er, bl HB⟩
                · rw [if_neg c110] at H
                  have c110b0 : decide (x10_2 < 2) = false := decide_eq_false c110
                  clear c110
                  obtain rfl := Option.some.inj H
                  obtain ⟨Ao114, co114, eo114⟩ := Kd.R_slice HO_9.out
                  subst eo114
                  go_wp2
                  go_ret
                  exact ⟨er, bl HB⟩
              · rw [if_neg c109] at H
                have c109b0 : ((decide (x5_1 > 0)) == (x10_2 == 1)) = false := by simpa using c109
                (try (have c109b1 : decide ((decide (x5_1 > 0)) = (x10_2 == 1)) = false := by simpa using c109))
                (try (have c109b2 : ((decide (x5_1 > 0)) == (x10_2 == 1)) = false := by simpa using c109))
                (try (have c109b3 : ¬ ((decide (x5_1 > 0)) = (x10_2 == 1)) := by simpa using c109))
                clear c109
                obtain rfl := Option.some.inj H
                obtain ⟨Ao115, co115, eo115⟩ := Kd.R_slice HO_9.out
                subst eo115
                go_wp2
                go_ret
                exact ⟨er, bl HB⟩
end Go.Proofs.YtpiifdbicibelaaDoor.PA
end
section
namespace Go.Proofs.YtpiifdbicibelaaDoor.Pure
open Go.RowKit Go.Proofs Go.Proofs.YtpiifdbicibelaaDoorW.PrintWords Go.Proofs.YtpiifdbicibelaaDoorW.PrintLast Go.Proofs.YtpiifdbicibelaaDoorW.PrintMore Go.Proofs.YtpiifdbicibelaaDoor.PA Go.Proofs.YtpiifdbicibelaaDoor.OpenK
set_option linter.unusedVariables false
set_option linter.unusedSimpArgs false
open Go.Proofs.YtpiifdbicibelaaDoor.PU (bs hasR emptyR unionR Apart)
theorem rd_get32 (l : List S32) (i : Nat) (x : S32) (h : l[i]? = some x) : rd_T32 l (i : Int) = x := by
  unfold rd_T32
  simp [List.getD, h]
theorem has32 (r : S32) (s : ByteArray) : code_Has.f r.f0 r.f1 r.f2 s = some (hasR r (bs s)) := by
  unfold code_Has.f hasR
  rw [bless_eq, bless_eq]
  by_cases h : bs s < bs r.f0
  · simp [h]
  · cases r.f2 <;> simp [h]
theorem empty32 (r : S32) : code_Empty.f r.f0 r.f1 r.f2 = some (emptyR r) := by
  unfold code_Empty.f emptyR
  rw [bless_eq]
  cases r.f2 <;> simp
theorem maxS_lt2 (a b : ByteArray) (k : List UInt8) : ¬ k < bs (Lib.maxS a b) ↔ ¬ k < bs a ∧ ¬ k < bs b := by
  rw [PU.maxS_lt]; exact not_or
theorem minS_lt2 (a b : ByteArray) (k : List UInt8) : k < bs (Lib.minS a b) ↔ k < bs a ∧ k < bs b := by
  unfold Lib.minS
  split
  · rename_i h
    refine ⟨fun hk => ⟨hk, ?_⟩, fun h => h.1⟩
    rcases h with h | h
    · exact List.lt_trans hk h
    · show k < b.data.toList
      rw [← h]; exact hk
  · rename_i h
    refine ⟨fun hk => ⟨?_, hk⟩, fun h => h.2⟩
    have h1 : ¬ a.data.toList < b.data.toList := fun e => h (.inl e)
    rcases PU.lt_tri (bs a) (bs b) with e | e | e
    · exact absurd e h1
    · rw [e]; exact hk
    · exact List.lt_trans hk e
/-- What is in both of two. -/
def bothR (a b : S32) : S32 := if !(a.f2 && b.f2) && !(decide (bs (Lib.maxS a.f0 b.f0) < bs (cboth_hi a.f1 b.f1 a.f2 b.f2))) then ⟨⟨#[]⟩, ⟨#[]⟩, false⟩ else ⟨Lib.maxS a.f0 b.f0, cboth_hi a.f1 b.f1 a.f2 b.f2, a.f2 && b.f2⟩
theorem both32 (a b : S32) : code_Both.f a.f0 a.f1 a.f2 b.f0 b.f1 b.f2 = some ((bothR a b).f0, (bothR a b).f1, (bothR a b).f2) := by
  unfold code_Both.f bothR
  rw [bless_eq]
  split <;> rfl
theorem not_lt_nil (k : List UInt8) : ¬ k < [] := by intro h; cases h
theorem hi_lt (a b : S32) (k : List UInt8) : (a.f2 && b.f2) = true ∨ k < bs (cboth_hi a.f1 b.f1 a.f2 b.f2) ↔ (a.f2 = true ∨ k < bs a.f1) ∧ (b.f2 = true ∨ k < bs b.f1) := by
  unfold cboth_hi
  cases a.f2 <;> cases b.f2 <;> simp [minS_lt2]
theorem hasR_iff (r : S32) (k : List UInt8) : hasR r k = true ↔ ¬ k < bs r.f0 ∧ (r.f2 = true ∨ k < bs r.f1) := by
  unfold hasR
  simp
theorem hasR_both (a b : S32) (k : List UInt8) : hasR (bothR a b) k = (hasR a k && hasR b k) := by
  rw [Bool.eq_iff_iff, Bool.and_eq_true, hasR_iff, hasR_iff, hasR_iff]
  have hlt : ∀ x y : List UInt8, ¬ k < x → k < y → x < y := fun x y h1 h2 => by
    rcases PU.lt_tri k x with e | e | e
    · exact absurd e h1
    · rw [← e]; exact h2
    · exact List.lt_trans e h2
  have key := hi_lt a b k
  have hm := maxS_lt2 a.f0 b.f0 k
  unfold bothR
  split
  · rename_i h
    simp only [Bool.and_eq_true, Bool.not_eq_true', decide_eq_false_iff_not] at h
    constructor
    · rintro ⟨_, h2 | h2⟩
      · cases h2
      · exact absurd h2 (not_lt_nil k)
    · rintro ⟨⟨p1, p2⟩, q1, q2⟩
      exfalso
      rcases key.2 ⟨p2, q2⟩ with e | e
      · rw [e] at h; cases h.1
      · exact h.2 (hlt _ _ (hm.2 ⟨p1, q1⟩) e)
  · constructor
    · rintro ⟨h1, h2⟩
      have e1 := hm.1 h1
      have e2 := key.1 h2
      exact ⟨⟨e1.1, e2.1⟩, e1.2, e2.2⟩
    · rintro ⟨⟨p1, p2⟩, q1, q2⟩
      exact ⟨hm.2 ⟨p1, q1⟩, key.2 ⟨p2, q2⟩⟩
theorem meet32 (a b : S32) : code_Meet.f a.f0 a.f1 a.f2 b.f0 b.f1 b.f2 = some (!(emptyR (bothR a b))) := by
  unfold code_Meet.f
  rw [both32, Option.bind_some]
  simp only [empty32, Option.bind_some]
theorem has_not_empty (r : S32) (k : List UInt8) (h : hasR r k = true) : emptyR r = false := by
  cases e : emptyR r with
  | false => rfl
  | true => rw [PU.hasR_empty e k] at h; cases h
theorem apart_at : ∀ (l : List S32) (i : Nat) (x : S32), Apart l → l[i]? = some x → emptyR x = false ∧ (∀ j, i = j + 1 → ∃ y, l[j]? = some y ∧ y.f2 = false ∧ bs y.f1 < bs x.f0)
  | [], i, x, _, h => by simp at h
  | [r], 0, x, h, hx => by
    obtain rfl := Option.some.inj hx
    exact ⟨h, fun j hj => by omega⟩
  | [r], i + 1, x, h, hx => by simp at hx
  | r :: s :: l, 0, x, h, hx => by
    obtain rfl := Option.some.inj hx
    exact ⟨h.1, fun j hj => by omega⟩
  | r :: s :: l, i + 1, x, h, hx => by
    obtain ⟨h1, h2⟩ := apart_at (s :: l) i x h.2.2.2 hx
    refine ⟨h1, fun j hj => ?_⟩
    obtain rfl : i = j := by omega
    cases i with
    | zero =>
      obtain rfl := Option.some.inj hx
      exact ⟨r, rfl, h.2.1, h.2.2.1⟩
    | succ j =>
      obtain ⟨y, e1, e2⟩ := h2 j rfl
      exact ⟨y, e1, e2⟩
theorem count_take (l : List S32) (p : S32 → Bool) (i : Nat) (x : S32) (h : l[i]? = some x) : ((l.take (i + 1)).filter p).length = ((l.take i).filter p).length + (if p x = true then 1 else 0) := by
  rw [List.take_add_one, h, List.filter_append, List.length_append]
  cases e : p x <;> simp [e]
theorem filter_le (l : List S32) (p : S32 → Bool) (i : Nat) : ((l.take i).filter p).length ≤ i := Nat.le_trans (List.length_filter_le _ _) (List.length_take_le _ _)
theorem any_count (l : List S32) (p : S32 → Bool) : l.any p = decide (0 < (l.filter p).length) := by
  rw [Bool.eq_iff_iff, decide_eq_true_iff, List.any_eq_true, List.length_pos_iff_exists_mem]
  constructor
  · rintro ⟨x, h1, h2⟩; exact ⟨x, List.mem_filter.2 ⟨h1, h2⟩⟩
  · rintro ⟨x, h⟩; exact ⟨x, (List.mem_filter.1 h).1, (List.mem_filter.1 h).2⟩
theorem CodeWhole (l0 : List S32) (a1 : ByteArray) (h0 : l0.length * 40 ≤ 140737488351232 ∧ ∀ y ∈ l0, wf32 y) (h1 : a1.size ≤ 140737488351232) : ∃ k, vellumlaw02_CodeWhole.f k l0 a1 = some true := by
  have hl := h0.1
  have hun : code_Union.f l0 = some (unionR l0) := by unfold code_Union.f; exact if_pos (by omega)
  have hap := PU.unionR_apart l0
  have hcnt := PU.apart_count (unionR l0) (bs a1) hap
  have hany := PU.unionR_has l0 (bs a1)
  rw [any_count, any_count] at hany
  have hul : (unionR l0).length ≤ l0.length := by
    have h2 := fold_len (PU.sortR (PU.neR l0)) []
    have h3 := (PU.sortR_perm (PU.neR l0)).length_eq
    have h4 : (PU.neR l0).length ≤ l0.length := List.length_filter_le _ _
    have h5 : unionR l0 = (PU.sortR (PU.neR l0)).foldl PU.stepU [] := rfl
    rw [h5]
    simp only [List.length_nil] at h2
    omega
  generalize unionR l0 = U at hun hap hcnt hany hul
  have w2 : ∀ (m i : Nat), i + m = U.length → Ev (fun k => vellumlaw02_CodeWhole.l2 k a1 (((l0.filter (hasR · (bs a1))).length : Nat) : Int) U ((((U.take i).filter (hasR · (bs a1))).length : Nat) : Int) (i : Int)) true := by
    intro m
    induction m with
    | zero =>
      intro i hi
      obtain rfl : i = U.length := by omega
      rw [List.take_length]
      refine Ev.step (g := fun k => (vellumlaw02_awake.f k).bind fun t => some t) (fun k => ?_) (Ev.bind awake_ev Ev.pure)
      simp only [vellumlaw02_CodeWhole.l2]
      rw [if_neg (by omega), if_pos ?_, if_pos (by omega)]
      have hd : decide ((((l0.filter (hasR · (bs a1))).length : Nat) : Int) > 0) = decide (0 < (l0.filter (hasR · (bs a1))).length) := by
        rw [decide_eq_decide]; omega
      rw [hd, ← hany, beq_iff_eq, Bool.eq_iff_iff, decide_eq_true_iff, beq_iff_eq]
      omega
    | succ m ih =>
      intro i hi
      have hlt : i < U.length := by omega
      obtain ⟨x, hx⟩ : ∃ x, U[i]? = some x := ⟨_, List.getElem?_eq_getElem hlt⟩
      have hct := count_take U (hasR · (bs a1)) i x hx
      have hfl := filter_le U (hasR · (bs a1)) i
      obtain ⟨e1, e2⟩ := apart_at U i x hap hx
      have hw : True → ∀ n : Nat, n ≤ U.length → wrap64 ((n : Int) + 1) = ((n + 1 : Nat) : Int) := fun _ n hn => by rw [wrap64_id (by omega) (by omega)]; omega
      have nxt := ih (i + 1) (by omega)
      rw [hct] at nxt
      refine Ev.step (g := fun k => vellumlaw02_CodeWhole.l2 k a1 (((l0.filter (hasR · (bs a1))).length : Nat) : Int) U ((((U.take i).filter (hasR · (bs a1))).length + (if hasR x (bs a1) = true then 1 else 0) : Nat) : Int) ((i + 1 : Nat) : Int)) (fun k => ?_) nxt
      simp only [vellumlaw02_CodeWhole.l2]
      have hwi := hw trivial i (by omega)
      have hwf := hw trivial _ (show ((U.take i).filter (hasR · (bs a1))).length ≤ U.length by omega)
      rw [if_pos (by omega), if_pos (by omega), rd_get32 U i x hx, has32, Option.bind_some, empty32, e1]
      have hnf : ¬ (false = true) := by decide
      by_cases hb : hasR x (bs a1) = true
      · rw [if_pos hb, if_pos hb, Option.bind_some, if_neg hnf, hwf, hwi]
        cases i with
        | zero => rw [if_neg (by decide)]
        | succ j =>
          obtain ⟨y, g1, g2, g3⟩ := e2 j rfl
          have hj : True → wrap64 (((j + 1 : Nat) : Int) - 1) = (j : Int) := fun _ => by rw [wrap64_id (by omega) (by omega)]; omega
          rw [if_pos (by omega), hj trivial, if_pos (by omega), if_pos (by omega), rd_get32 U j y g1, g2, if_neg hnf, bless_eq, if_pos (decide_eq_true g3)]
      · rw [if_neg hb, if_neg hb, Option.bind_some, if_neg hnf, hwi]
        cases i with
        | zero => rw [if_neg (by decide)]; rfl
        | succ j =>
          obtain ⟨y, g1, g2, g3⟩ := e2 j rfl
          have hj : True → wrap64 (((j + 1 : Nat) : Int) - 1) = (j : Int) := fun _ => by rw [wrap64_id (by omega) (by omega)]; omega
          rw [if_pos (by omega), hj trivial, if_pos (by omega), if_pos (by omega), rd_get32 U j y g1, g2, if_neg hnf, bless_eq, if_pos (decide_eq_true g3)]
          rfl
  have w1 : ∀ (i : Nat) (x : S32), l0[i]? = some x → ∀ n : Int, Ev (fun k => vellumlaw02_CodeWhole.l0 k l0 a1 n ((i + 1 : Nat) : Int)) true → ∀ (m j : Nat), j + m = i → Ev (fun k => vellumlaw02_CodeWhole.l1 k l0 a1 n (i : Int) (j : Int)) true := by
    intro i x hx n hn m
    have hi := (List.getElem?_eq_some_iff.1 hx).1
    have hwi : True → wrap64 ((i : Int) + 1) = ((i + 1 : Nat) : Int) := fun _ => by rw [wrap64_id (by omega) (by omega)]; omega
    induction m with
    | zero =>
      intro j hj
      refine Ev.step (fun k => ?_) hn
      simp only [vellumlaw02_CodeWhole.l1]
      rw [if_neg (by omega), hwi trivial]
    | succ m ih =>
      intro j hj
      have hlt : j < l0.length := by omega
      obtain ⟨y, hy⟩ : ∃ y, l0[j]? = some y := ⟨_, List.getElem?_eq_getElem hlt⟩
      have hwj : True → wrap64 ((j : Int) + 1) = ((j + 1 : Nat) : Int) := fun _ => by rw [wrap64_id (by omega) (by omega)]; omega
      have nxt := ih (j + 1) (by omega)
      refine Ev.step (g := fun k => vellumlaw02_CodeWhole.j3 k l0 a1 n (i : Int) (j : Int) (hasR x (bs a1) && hasR y (bs a1))) (fun k => ?_) (Ev.step (fun k => ?_) nxt)
      · simp only [vellumlaw02_CodeWhole.l1]
        rw [if_pos (by omega), if_pos (by omega), if_pos (by omega), rd_get32 l0 i x hx, has32, Option.bind_some]
        by_cases hb : hasR x (bs a1) = true
        · rw [if_pos hb, if_pos (by omega), if_pos (by omega), rd_get32 l0 j y hy, has32, Option.bind_some, hb, Bool.true_and]
        · rw [if_neg hb]
          have hb' : hasR x (bs a1) = false := by simpa using hb
          rw [hb', Bool.false_and]
      · simp only [vellumlaw02_CodeWhole.j3]
        rw [if_pos (by omega), if_pos (by omega), if_pos (by omega), if_pos (by omega), rd_get32 l0 i x hx, rd_get32 l0 j y hy, both32, Option.bind_some]
        simp only [has32, Option.bind_some, hasR_both, meet32, bne_self_eq_false]
        rw [if_neg (by decide), hwj trivial]
        cases hb : (hasR x (bs a1) && hasR y (bs a1)) with
        | false => rw [if_neg (by decide)]
        | true =>
          have he := has_not_empty (bothR x y) (bs a1) (by rw [hasR_both]; exact hb)
          rw [if_pos rfl, he]
          rfl
  have w0 : ∀ (m i : Nat), i + m = l0.length → Ev (fun k => vellumlaw02_CodeWhole.l0 k l0 a1 ((((l0.take i).filter (hasR · (bs a1))).length : Nat) : Int) (i : Int)) true := by
    intro m
    induction m with
    | zero =>
      intro i hi
      obtain rfl : i = l0.length := by omega
      rw [List.take_length]
      refine Ev.step (g := fun k => vellumlaw02_CodeWhole.l2 k a1 (((l0.filter (hasR · (bs a1))).length : Nat) : Int) U 0 0) (fun k => ?_) (w2 U.length 0 (by omega))
      simp only [vellumlaw02_CodeWhole.l0]
      rw [if_neg (by omega), hun, Option.bind_some]
    | succ m ih =>
      intro i hi
      have hlt : i < l0.length := by omega
      obtain ⟨x, hx⟩ : ∃ x, l0[i]? = some x := ⟨_, List.getElem?_eq_getElem hlt⟩
      have hct := count_take l0 (hasR · (bs a1)) i x hx
      have hfl := filter_le l0 (hasR · (bs a1)) i
      have hw : True → ∀ n : Nat, n ≤ l0.length → wrap64 ((n : Int) + 1) = ((n + 1 : Nat) : Int) := fun _ n hn => by rw [wrap64_id (by omega) (by omega)]; omega
      have nxt := w1 i x hx _ (ih (i + 1) (by omega)) i 0 (by omega)
      rw [hct] at nxt
      refine Ev.step (g := fun k => vellumlaw02_CodeWhole.j1 k l0 a1 ((((l0.take i).filter (hasR · (bs a1))).length + (if hasR x (bs a1) = true then 1 else 0) : Nat) : Int) (i : Int)) (fun k => ?_) (Ev.step (fun k => ?_) nxt)
      · simp only [vellumlaw02_CodeWhole.l0]
        rw [if_pos (by omega), if_pos (by omega), rd_get32 l0 i x hx, has32, Option.bind_some, hw trivial _ (by omega)]
        cases hasR x (bs a1) <;> simp
      · simp only [vellumlaw02_CodeWhole.j1]
        rfl
  exact Ev.ex (w0 l0.length 0 (by omega))
end Go.Proofs.YtpiifdbicibelaaDoor.Pure
end
section
namespace Go.Proofs.YtpiifdbicibelaaDoor
open Go.RowKit
theorem main_ : Tryd.pinned.checked.prog.mainIs = some (true, "409e20a6319c123f59629b35fea50f486835097bfbed967dc062cdc0fc9eff79".toList) := by kernel_rfl
theorem looks_ : false = Tryd.prog.looks [] := by kernel_rfl
end Go.Proofs.YtpiifdbicibelaaDoor
end
section
namespace Go.Proofs.YtpiifdbicibelaaDoor.codeWhole
open Go.ChangeShapes Go.WideShapes Go.ChangeAt Go.RowKit Go.Proofs.YtpiifdbicibelaaDoorW.PrintWords Go.Proofs.YtpiifdbicibelaaDoor.PA Go.Proofs.YtpiifdbicibelaaDoor.OpenK Go.Proofs.YtpiifdbicibelaaDoor.Pure
open Go.ChangeMaps (open_string shut_string)
set_option linter.unusedVariables false
theorem walk {H : Type} {enc : TypeId × Value → H} (W : World) (base : Nat) (args : Array Value) (ds : List (DataW H)) (ps : List MemPlace) (hA0 : DataW.TrodAll enc Tryd.prog W 0 (fun _ => true) true Tryd.f11.params.toList args.toList ds ps)
    (hw0 : (DataW.weightsEach Tryd.prog Tryd.f11.params.toList ds).all (· ≤ reachBytes) = true) (hval0 : ∀ (j : Nat) t v, Tryd.f11.params[j]? = some t → args[j]? = some v → Value.okWide Tryd.prog W .any base t v) (hG : Glob W) :
    Calls Tryd.prog 11 args W fun e W' => e = .returned (.bool true) ∧ Below W.heap.size W W' := by
  have hval : ∀ (j : Nat) t v, Tryd.f11.params[j]? = some t → args[j]? = some v → Value.okWide Tryd.prog W .any base t v := @hval0
  have hA : DataW.TrodAll enc Tryd.prog W 0 (fun _ => true) true Tryd.f11.params.toList args.toList ds ps := hA0
  have hw : (DataW.weightsEach Tryd.prog Tryd.f11.params.toList ds).all (· ≤ reachBytes) = true := hw0
  rw [Tryd.params11] at hA hval hw
  clear hA0 hw0 hval0
  obtain ⟨v0, vs0, d0, ds0, p0, q0, hargs, rfl, rfl, h0, r0⟩ := trodAll_cons hA
  obtain ⟨v1, vs1, d1, ds1, p1, q1, rfl, rfl, rfl, h1, r1⟩ := trodAll_cons r0
  obtain ⟨rfl, rfl, rfl⟩ := trodAll_nil r1
  obtain rfl : args = #[v0, v1] := by cases args; simp_all
  simp only [DataW.weightsEach, all_append_iff] at hw
  obtain ⟨hw0, hw1, _⟩ := hw
  obtain ⟨a0, len0, cap0, rfl⟩ := arg_slice (j := 0) @hval rfl rfl Tryd.underlying53
  obtain ⟨fuel0, hf0⟩ := h0
  obtain ⟨l0, ⟨A0, c0, he0, hl0, hC0⟩, wf0_⟩ := (Opn.slice Tryd.underlying53 opn32 (by kernel_rfl) (by kernel_rfl)) hf0 hw0
  simp [Value.cells] at he0
  obtain ⟨rfl, rfl, rfl⟩ := he0
  obtain ⟨a1, rfl, rfl, rfl, y1⟩ := arg_string (j := 1) @hval rfl rfl Tryd.underlying9 h1
  have wf1_ : a1.size ≤ 140737488351232 := by
    simp only [DataW.weights, List.all_cons, List.all_nil, Bool.and_true, decide_eq_true_eq, Array.length_toList] at hw1
    unfold reachBytes at hw1
    exact hw1
  obtain ⟨k, h⟩ := CodeWhole l0 a1 wf0_ wf1_
  refine (vellumlaw02_CodeWhole.calls k _ _ l0 a1 true W hC0 hl0 hG h).mono ?_
  rintro e W' ⟨rfl, hd⟩
  exact ⟨rfl, hd⟩
theorem witness_row (os : Os) {H : Type} (enc : TypeId × Value → H) :
    (OpenSpec.ofChange Rows.codeWholeSpec).preRow enc Tryd.prog Tryd.f11 [] false laidList ((laidWorld os).forCall (fun _ _ => 0) ⟨#[], #[.slice none 0 0, .string ByteArray.empty], []⟩).memory #[.slice none 0 0, .string ByteArray.empty] := by
  have hw : (DataW.whole enc Tryd.prog ((laidWorld os).forCall (fun _ _ => 0) ⟨#[], #[.slice none 0 0, .string ByteArray.empty], []⟩).memory Tryd.f11.params.toList (OpenSpec.ofChange Rows.codeWholeSpec).vars false (#[.slice none 0 0, .string ByteArray.empty] : Array Value).toList 8).map (fun x => (x.1, x.2.1)) = some ([.nil, .lit (.string [])], []) := by kernel_rfl
  obtain ⟨⟨x1, x2, x3⟩, hx, hx1⟩ := Option.map_eq_some_iff.1 hw
  simp only [Prod.mk.injEq] at hx1
  obtain ⟨rfl, rfl⟩ := hx1
  exact OpenSpec.preRow_of_cond 8 hx (by kernel_rfl) (fun k hk => by cases hk) (by kernel_rfl) (laid_met os _)
theorem ends {os : Os} (started : os.Started) {H : Type} {enc : TypeId × Value → H} {F : Stop.Interp} : ReturnsInHanded { modest := false } Tryd.checked os 11 .any ((OpenSpec.ofChange Rows.codeWholeSpec).preRow enc Tryd.prog Tryd.f11 [] false laidList) (((OpenSpec.ofChange Rows.codeWholeSpec).at F).post enc Tryd.prog Tryd.f11 false true false false) :=
  law_lifted (spec := Rows.codeWholeSpec) Tryd.func11 (by kernel_rfl) (tb := 4) rfl Tryd.underlying4 (by kernel_rfl) rfl
    (fun H ds hl => by
      match ds, hl with
      | [_, _], _ => rfl) started
    (witness_row_atRef (enc := enc) (C := Tryd.checked) false (laidWorld os) #[.slice none 0 0, .string ByteArray.empty] rfl (by kernel_rfl) (by kernel_rfl) (by kernel_rfl) (witness_row os enc))
    (fun W base args ds ps hA hw hval hG => walk W base args ds ps hA hw @hval hG)
theorem inPlace_ : Tryd.prog.inPlace 11 = Rows.codeWholeRow.inPlace := by kernel_rfl
theorem unfollowed_ : Tryd.prog.unfollowed 11 = Rows.codeWholeRow.unfollowed := by kernel_rfl
theorem recurses_ : Tryd.prog.recurses 11 = Rows.codeWholeRow.recurses := by kernel_rfl
theorem named_ : Tryd.prog.varsNamed 11 = Rows.codeWholeRow.named := by kernel_rfl
theorem closed : joinedFacts Tryd.prog 11 Tryd.f11 (OpenSpec.ofChange Rows.codeWholeSpec).bare Rows.codeWholeRow = true := by
  unfold joinedFacts
  rw [laidOut, mapsRowed_, stops_, stopKnobs_, plainKeys_, stopsHeard_, mayEnter_, lifts_, make_, inPlace_, unfollowed_, recurses_, named_]
  kernel_rfl
set_option maxRecDepth 100000 in
theorem over : Rows.codeWholeRow.holds Tryd.pinned (OpenSpec.ofChange Rows.codeWholeSpec) :=
  OpenClaim.holds_of_cond 11 Tryd.f11 rfl rfl rfl rfl rfl rfl rfl ⟨rfl, rfl, rfl, rfl, rfl⟩ rfl rfl rfl rfl rfl (by kernel_rfl) Tryd.func11 closed
    (of_decide_eq_true (by kernel_rfl)) (by unfold Func.isWrapper; rw [if_neg (of_decide_eq_false (by kernel_rfl))]; exact ⟨rfl, rfl⟩)
    (fun os started H enc _ F => by
      rw [OpenClaim.pre_eq_preRow]
      exact ends started)
theorem goes_ : false = Rows.codeWholeRow.goesBy Tryd.prog := by kernel_rfl
theorem fnamed_ : Tryd.prog.funcNamed "vellum/vellumlaw02.CodeWhole" = some 11 := by kernel_rfl
theorem card : Rows.CodeWholeCardSaid :=
  Claim7.holds_tied_plain_at .later [] [.data, .pinned] true (true, "409e20a6319c123f59629b35fea50f486835097bfbed967dc062cdc0fc9eff79") false
    over (fun _ h => by cases h) (by kernel_rfl) (fun _ h => by cases h) codeWhole_row_tie rfl ⟨rfl, rfl⟩ main_ rfl
    (fun f fn hf hfn => by
      obtain rfl : f = 11 := Option.some.inj (fnamed_.symm.trans hf) |>.symm
      obtain rfl : fn = Tryd.f11 := (Option.some.inj (Tryd.func11.symm.trans hfn)).symm
      exact ⟨looks_, fun j t ht => by
        rw [Tryd.params11] at ht
        have h3 : t ∈ [53, 9] := by
          have := List.mem_of_getElem? (l := [53, 9]) (i := j) (by simpa using ht)
          exact this
        have h4 : ∀ t ∈ [53, 9], Tryd.prog.wantsStandIn t = false := by
          intro t ht
          simp only [List.mem_cons, List.mem_nil_iff, or_false] at ht
          rcases ht with rfl | rfl
          all_goals kernel_rfl
        exact h4 t h3⟩)
    goes_
end Go.Proofs.YtpiifdbicibelaaDoor.codeWhole
namespace Go.Proofs.YtpiifdbicibelaaDoor
theorem codeWhole_holds : Rows.CodeWholeCardSaid := codeWhole.card
end Go.Proofs.YtpiifdbicibelaaDoor
end
