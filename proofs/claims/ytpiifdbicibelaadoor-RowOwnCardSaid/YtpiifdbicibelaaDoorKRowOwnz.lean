/- RowOwn: the law returns true at every input, and its arguments read as before. Conditions: as the row has them (the listed tables as the program's text lays them). -/
import Derived.Test.YtpiifdbicibelaaDoorKRowOwn3
section
namespace Go.Proofs.YtpiifdbicibelaaDoor.PA
open Go.RowKit Go.Proofs.YtpiifdbicibelaaDoorW.PrintWords Go.Proofs.YtpiifdbicibelaaDoorW.PrintLast Go.Proofs.YtpiifdbicibelaaDoorW.PrintMore
attribute [local go_sem] max2_int min2_int max_two min_two max_three min_three max_four min_four
set_option linter.unusedVariables false
set_option linter.unusedSimpArgs false
set_option maxHeartbeats 8000000 in
set_option maxRecDepth 100000 in
theorem vellumlaw04_RowOwn.calls (k : Nat) (a0_0 : ByteArray) (A0_1 : Option Addr) (c0_1 : Nat) (l0_1 : List (S105)) (A0_2 : Option Addr) (c0_2 : Nat) (l0_2 : List Int) (A0_3 : Option Addr) (c0_3 : Nat) (l0_3 : List (S115)) (A0_4 : Option Addr) (c0_4 : Nat) (l0_4 : List (S139)) (A1 : Option Addr) (c1 : Nat) (l1 : List (S50)) (a2 : ByteArray) (r : Bool) (w : World) (hr0_1 : Kd.C k105 w A0_1 l0_1.length l0_1) (hc0_1 : l0_1.length ≤ c0_1) (hr0_2 : Kd.C (Kd.int .i64) w A0_2 l0_2.length l0_2) (hc0_2 : l0_2.length ≤ c0_2) (hr0_3 : Kd.C k115 w A0_3 l0_3.length l0_3) (hc0_3 : l0_3.length ≤ c0_3) (hr0_4 : Kd.C k139 w A0_4 l0_4.length l0_4) (hc0_4 : l0_4.length ≤ c0_4) (hr1 : Kd.C k50 w A1 l1.length l1) (hc1 : l1.length ≤ c1) (hG : Glob w) (h : vellumlaw04_RowOwn.f k a0_0 l0_1 l0_2 l0_3 l0_4 l1 a2 = some r) :
    Calls Tryd.prog 18 #[.agg #[.string a0_0, .slice A0_1 l0_1.length c0_1, .slice A0_2 l0_2.length c0_2, .slice A0_3 l0_3.length c0_3, .slice A0_4 l0_4.length c0_4], .slice A1 l1.length c1, .string a2] w fun e w' => e = .returned (.bool r) ∧ Below w.heap.size w w' := by
  have hu65 := Tryd.underlying65
  have HR0_1 := am hr0_1
  have HC0_1 := am hc0_1
  clear hr0_1 hc0_1
  have HR0_2 := am hr0_2
  have HC0_2 := am hc0_2
  clear hr0_2 hc0_2
  have HR0_3 := am hr0_3
  have HC0_3 := am hc0_3
  clear hr0_3 hc0_3
  have HR0_4 := am hr0_4
  have HC0_4 := am hc0_4
  clear hr0_4 hc0_4
  have HR1 := am hr1
  have HC1 := am hc1
  clear hr1 hc1
  have HG := am hG
  clear hG
  have HB := am (Below.refl w.heap.size w)
  have H : ((vellumref01_Row.f k l1).bind fun t947 => ((row_Encode.f k a0_0 l0_1 l0_2 l0_3 l0_4 t947).bind fun bt950 => ((row_Decode.f k a0_0 l0_1 l0_2 l0_3 l0_4 bt950.1).bind fun bt952 => ((row_Apply.f k a0_0 l0_1 l0_2 l0_3 l0_4 t947 a2).bind fun bt956 => ((vellumlaw04_wipe.f k bt952.1).bind fun t960 => ((vellumlaw04_wipe.f k bt956.1).bind fun t961 => ((row_Encode.f k a0_0 l0_1 l0_2 l0_3 l0_4 t947).bind fun bt962 => (if bt950.2 = bt962.2 then (if bt950.1.toList = bt962.1.toList then ((vellumref01_SameRow.f k t947 l1).bind fun t964 => (if t964 = true then ((vellumlaw04_awake.f k).bind fun t965 => (some t965)) else (some false))) else (some false)) else (some false))))))))) = some r := h
  clear h
  replace H := Option.bind_eq_some_iff.mp H
  obtain ⟨t947, A40, H⟩ := H
  replace H : ((row_Encode.f k a0_0 l0_1 l0_2 l0_3 l0_4 t947).bind fun bt950 => ((row_Decode.f k a0_0 l0_1 l0_2 l0_3 l0_4 bt950.1).bind fun bt952 => ((row_Apply.f k a0_0 l0_1 l0_2 l0_3 l0_4 t947 a2).bind fun bt956 => ((vellumlaw04_wipe.f k bt952.1).bind fun t960 => ((vellumlaw04_wipe.f k bt956.1).bind fun t961 => ((row_Encode.f k a0_0 l0_1 l0_2 l0_3 l0_4 t947).bind fun bt962 => (if bt950.2 = bt962.2 then (if bt950.1.toList = bt962.1.toList then ((vellumref01_SameRow.f k t947 l1).bind fun t964 => (if t964 = true then ((vellumlaw04_awake.f k).bind fun t965 => (some t965)) else (some false))) else (some false)) else (some false)))))))) = some r := H
  have A4 := am A40
  clear A40
  replace H := Option.bind_eq_some_iff.mp H
  obtain ⟨⟨t950, t951⟩, A50, H⟩ := H
  replace H : ((row_Decode.f k a0_0 l0_1 l0_2 l0_3 l0_4 t950).bind fun bt952 => ((row_Apply.f k a0_0 l0_1 l0_2 l0_3 l0_4 t947 a2).bind fun bt956 => ((vellumlaw04_wipe.f k bt952.1).bind fun t960 => ((vellumlaw04_wipe.f k bt956.1).bind fun t961 => ((row_Encode.f k a0_0 l0_1 l0_2 l0_3 l0_4 t947).bind fun bt962 => (if t951 = bt962.2 then (if t950.toList = bt962.1.toList then ((vellumref01_SameRow.f k t947 l1).bind fun t964 => (if t964 = true then ((vellumlaw04_awake.f k).bind fun t965 => (some t965)) else (some false))) else (some false)) else (some false))))))) = some r := H
  have A5 := am A50
  clear A50
  replace H := Option.bind_eq_some_iff.mp H
  obtain ⟨⟨t952, t955⟩, A60, H⟩ := H
  replace H : ((row_Apply.f k a0_0 l0_1 l0_2 l0_3 l0_4 t947 a2).bind fun bt956 => ((vellumlaw04_wipe.f k t952).bind fun t960 => ((vellumlaw04_wipe.f k bt956.1).bind fun t961 => ((row_Encode.f k a0_0 l0_1 l0_2 l0_3 l0_4 t947).bind fun bt962 => (if t951 = bt962.2 then (if t950.toList = bt962.1.toList then ((vellumref01_SameRow.f k t947 l1).bind fun t964 => (if t964 = true then ((vellumlaw04_awake.f k).bind fun t965 => (some t965)) else (some false))) else (some false)) else (some false)))))) = some r := H
  have A6 := am A60
  clear A60
  replace H := Option.bind_eq_some_iff.mp H
  obtain ⟨⟨t956, t959⟩, A70, H⟩ := H
  replace H : ((vellumlaw04_wipe.f k t952).bind fun t960 => ((vellumlaw04_wipe.f k t956).bind fun t961 => ((row_Encode.f k a0_0 l0_1 l0_2 l0_3 l0_4 t947).bind fun bt962 => (if t951 = bt962.2 then (if t950.toList = bt962.1.toList then ((vellumref01_SameRow.f k t947 l1).bind fun t964 => (if t964 = true then ((vellumlaw04_awake.f k).bind fun t965 => (some t965)) else (some false))) else (some false)) else (some false))))) = some r := H
  have A7 := am A70
  clear A70
  replace H := Option.bind_eq_some_iff.mp H
  obtain ⟨t960, A80, H⟩ := H
  replace H : ((vellumlaw04_wipe.f k t956).bind fun t961 => ((row_Encode.f k a0_0 l0_1 l0_2 l0_3 l0_4 t947).bind fun bt962 => (if t951 = bt962.2 then (if t950.toList = bt962.1.toList then ((vellumref01_SameRow.f k t947 l1).bind fun t964 => (if t964 = true then ((vellumlaw04_awake.f k).bind fun t965 => (some t965)) else (some false))) else (some false)) else (some false)))) = some r := H
  have A8 := am A80
  clear A80
  replace H := Option.bind_eq_some_iff.mp H
  obtain ⟨t961, A90, H⟩ := H
  replace H : ((row_Encode.f k a0_0 l0_1 l0_2 l0_3 l0_4 t947).bind fun bt962 => (if t951 = bt962.2 then (if t950.toList = bt962.1.toList then ((vellumref01_SameRow.f k t947 l1).bind fun t964 => (if t964 = true then ((vellumlaw04_awake.f k).bind fun t965 => (some t965)) else (some false))) else (some false)) else (some false))) = some r := H
  have A9 := am A90
  clear A90
  replace H := Option.bind_eq_some_iff.mp H
  obtain ⟨⟨t962, t963⟩, A100, H⟩ := H
  replace H : (if t951 = t963 then (if t950.toList = t962.toList then ((vellumref01_SameRow.f k t947 l1).bind fun t964 => (if t964 = true then ((vellumlaw04_awake.f k).bind fun t965 => (some t965)) else (some false))) else (some false)) else (some false)) = some r := H
  have A10 := am A100
  clear A100
  by_cases c11 : t951 = t963
  · rw [if_pos c11] at H
    have c11b0 : (t951 == t963) = true := beq_iff_eq.mpr c11
    have c11b1 : (t951 != t963) = false := bne_eq_false_iff_eq.mpr c11
    clear c11
    by_cases c12 : t950.toList = t962.toList
    · rw [if_pos c12] at H
      have c12b0 : (t950.toList == t962.toList) = true := beq_iff_eq.mpr c12
      have c12b1 : (t950.toList != t962.toList) = false := bne_eq_false_iff_eq.mpr c12
      clear c12
      replace H := Option.bind_eq_some_iff.mp H
      obtain ⟨t964, A130, H⟩ := H
      replace H : (if t964 = true then ((vellumlaw04_awake.f k).bind fun t965 => (some t965)) else (some false)) = some r := H
      have A13 := am A130
      clear A130
      by_cases c14 : t964 = true
      · subst c14
        have H1 : ((vellumlaw04_awake.f k).bind fun t965 => (some t965)) = some r := by rw [if_pos rfl] at H; exact H
        clear H
        have H := H1
        clear H1
        replace H := Option.bind_eq_some_iff.mp H
        obtain ⟨t965, A150, H⟩ := H
        replace H : (some t965) = some r := H
        have A15 := am A150
        clear A150
        obtain rfl := Option.some.inj H
        go_enter Tryd.func18, Tryd.ntmps18
        go_wp2_with (first | ((with_reducible refine gate_dst (N := 3) rfl ?_); refine box_event rfl (N := 3) rfl (cs := #[.string a0_0, .slice A0_1 l0_1.length c0_1, .slice A0_2 l0_2.length c0_2, .slice A0_3 l0_3.length c0_3, .slice A0_4 l0_4.length c0_4]) (t := 65) gs ?_; intro gb946 hg w16 hbox hb; have BK946 := am (hbox); have GW946 := gw hg HB; have GE946 := gw hg HB; replace HB := sb HB hb; clear hb hbox hg) | ((with_reducible refine gate_callee (f := 51) rfl ?_); refine goesL_ (some 17) rfl rfl Tryd.func51 (by kernel_rfl) rfl #[.slice A1 l1.length c1] rfl ar ?_; (with_reducible refine (vellumref01_Row.calls k _ _ l1 t947 _ (Kd.cb HR1 HB) HC1.out A4.out).mono ?_); rintro e w17 ⟨v948, rfl, ho0, hb⟩; refine ⟨_, rfl, ?_⟩; have n0_ := am (Kd.R_lower ho0 (below_size (bl HB))); have n1_ := kb BK946 hb; have n2_ := sb HB hb; clear BK946; clear HB; have HO949 := n0_; have BK946 := n1_; have HB := n2_; clear n0_ n1_ n2_; (try clear hb); (try clear hb2 hk hi); (try clear ho0); obtain ⟨Z18_0, Z18_1, Z18_2, Z18_3, Z18_4, Y18_0, Y18_1, Y18_2, Y18_3, Y18_4⟩ := bq5 BK946; obtain ⟨Ao19, co19, eo19⟩ := Kd.R_slice HO949.out; subst eo19) | ((with_reducible refine gate_callee (f := 52) rfl ?_); refine goesL_ (some 21) rfl rfl Tryd.func52 (by kernel_rfl) rfl #[.agg #[.string a0_0, .slice A0_1 l0_1.length c0_1, .slice A0_2 l0_2.length c0_2, .slice A0_3 l0_3.length c0_3, .slice A0_4 l0_4.length c0_4], .slice Ao19 t947.length co19] rfl ar ?_; (with_reducible refine (row_Encode.calls k a0_0 _ _ l0_1 _ _ l0_2 _ _ l0_3 _ _ l0_4 _ _ t947 t950 t951 _ (Kd.cb HR0_1 HB) HC0_1.out (Kd.cb HR0_2 HB) HC0_2.out (Kd.cb HR0_3 HB) HC0_3.out (Kd.cb HR0_4 HB) HC0_4.out ?side9 ?side10 (Glob.below HG.out (bl HB)) A5.out).mono ?_); (case side9 => repeat (first | exact (Kd.R_reads' HO949.out).2.2 | (with_reducible refine Kd.C_alloc ?_ _) | (with_reducible refine Kd.C_drewN ?_ _) | (with_reducible refine Kd.C_drew ?_))); (case side10 => exact (Kd.R_reads' HO949.out).2.1); rintro e w20 ⟨rfl, hb⟩; refine ⟨_, rfl, ?_⟩; have n0_ := am (Kd.R_below (Kd.rr HO949.out) hb); have n1_ := kb BK946 hb; have n2_ := sb HB hb; clear HO949; clear BK946; clear HB; have HO949 := n0_; have BK946 := n1_; have HB := n2_; clear n0_ n1_ n2_; (try clear hb); (try clear hb2 hk hi); obtain ⟨Z21_0, Z21_1, Z21_2, Z21_3, Z21_4, Y21_0, Y21_1, Y21_2, Y21_3, Y21_4⟩ := bq5 BK946) | ((with_reducible refine gate_callee (f := 58) rfl ?_); refine goesL_ (some 27) rfl rfl Tryd.func58 (by kernel_rfl) rfl #[.agg #[.string a0_0, .slice A0_1 l0_1.length c0_1, .slice A0_2 l0_2.length c0_2, .slice A0_3 l0_3.length c0_3, .slice A0_4 l0_4.length c0_4], .string t950] rfl ar ?_; (with_reducible refine (row_Decode.calls k a0_0 _ _ l0_1 _ _ l0_2 _ _ l0_3 _ _ l0_4 t950 t952 t955 _ (Kd.cb HR0_1 HB) HC0_1.out (Kd.cb HR0_2 HB) HC0_2.out (Kd.cb HR0_3 HB) HC0_3.out (Kd.cb HR0_4 HB) HC0_4.out (Glob.below HG.out (bl HB)) A6.out).mono ?_); rintro e w22 ⟨v953, rfl, ho0, hb⟩; refine ⟨_, rfl, ?_⟩; have n0_ := am (Kd.R_elder' (Kd.rr HO949.out) (Kd.R_base ho0) hb); have n1_ := am (Kd.R_lower (Kd.R_new' ho0 (Kd.R_lt (Kd.rr HO949.out))) (below_size (bl HB))); have n2_ := kb BK946 hb; have n3_ := sb HB hb; clear HO949; clear BK946; clear HB; have HO949 := n0_; have HO954 := n1_; have BK946 := n2_; have HB := n3_; clear n0_ n1_ n2_ n3_; (try clear hb); (try clear hb2 hk hi); (try clear ho0); obtain ⟨Z23_0, Z23_1, Z23_2, Z23_3, Z23_4, Y23_0, Y23_1, Y23_2, Y23_3, Y23_4⟩ := bq5 BK946) | ((with_reducible refine gate_callee (f := 60) rfl ?_); refine goesL_ (some 34) rfl rfl Tryd.func60 (by kernel_rfl) rfl #[.agg #[.string a0_0, .slice A0_1 l0_1.length c0_1, .slice A0_2 l0_2.length c0_2, .slice A0_3 l0_3.length c0_3, .slice A0_4 l0_4.length c0_4], .slice Ao19 t947.length co19, .string a2] rfl ar ?_; (with_reducible refine (row_Apply.calls k a0_0 _ _ l0_1 _ _ l0_2 _ _ l0_3 _ _ l0_4 _ _ t947 a2 t956 t959 _ (Kd.cb HR0_1 HB) HC0_1.out (Kd.cb HR0_2 HB) HC0_2.out (Kd.cb HR0_3 HB) HC0_3.out (Kd.cb HR0_4 HB) HC0_4.out ?side9 ?side10 (Glob.below HG.out (bl HB)) A7.out).mono ?_); (case side9 => repeat (first | exact (Kd.R_reads' HO949.out).2.2 | (with_reducible refine Kd.C_alloc ?_ _) | (with_reducible refine Kd.C_drewN ?_ _) | (with_reducible refine Kd.C_drew ?_))); (case side10 => exact (Kd.R_reads' HO949.out).2.1); rintro e w24 ⟨v957, rfl, ho0, hb⟩; refine ⟨_, rfl, ?_⟩; have n0_ := am (Kd.R_elder' (Kd.rr HO949.out) (Kd.R_base ho0) hb); have n1_ := am (Kd.R_elder' (Kd.rr HO954.out) (Kd.R_base ho0) hb); have n2_ := am (Kd.R_lower (Kd.R_new' (Kd.R_new' ho0 (Kd.R_lt (Kd.rr HO949.out))) (Kd.R_lt (Kd.rr HO954.out))) (below_size (bl HB))); have n3_ := kb BK946 hb; have n4_ := sb HB hb; clear HO949; clear HO954; clear BK946; clear HB; have HO949 := n0_; have HO954 := n1_; have HO958 := n2_; have BK946 := n3_; have HB := n4_; clear n0_ n1_ n2_ n3_ n4_; (try clear hb); (try clear hb2 hk hi); (try clear ho0); obtain ⟨Ao25, co25, eo25⟩ := Kd.R_slice HO954.out; subst eo25) | ((with_reducible refine gate_callee (f := 62) rfl ?_); refine goesL_ (some 38) rfl rfl Tryd.func62 (by kernel_rfl) rfl #[.slice Ao25 t952.length co25] rfl ar ?_; (with_reducible refine (vellumlaw04_wipe.calls k (fun k_ => some k_ = (.slice Ao25 t952.length co25 : Value).ownBlock) (.slice Ao25 t952.length co25) t952 t960 w _ ?side1 ?side2 A8.out).mono ?_); (case side1 => repeat (first | (with_reducible first | exact HB.out | apply below_alloc | apply pw_below_drewN | apply below_drew1 | refine below_set ?_ GE946.out) | exact HB.out)); (case side2 => exact Kd.R_tight rfl HO954.out); rintro e w26 ⟨rfl, hy0, hb, hkp⟩; refine ⟨_, rfl, ?_⟩; have n0_ := am (blk_kept (bk BK946) hkp (fun hs_ => (fun e_ => (Kd.R_ne HO954.out BK946.out (by decide)) e_) hs_)); have n1_ := am (Kd.R_mono (ok' := fun k_ => some k_ ≠ (.slice Ao25 t952.length co25 : Value).ownBlock ∧ some k_ ≠ (v957 : Value).ownBlock) (Kd.R_keptB (HO949.out) hkp (fun k_ hk_ hs_ => (hk_.1.2) hs_)) (fun k_ hk_ => ⟨hk_.1.1.2, hk_.1.2⟩)); have n2_ := am (Kd.R_reok rfl hy0 (fun k_ e_ => HO954.out.1 k_ e_)); have n3_ := am (Kd.R_mono (ok' := fun k_ => some k_ ≠ (.slice Ao19 t947.length co19 : Value).ownBlock ∧ some k_ ≠ (.slice Ao25 t952.length co25 : Value).ownBlock) (Kd.R_keptB (HO958.out) hkp (fun k_ hk_ hs_ => (hk_.2) hs_)) (fun k_ hk_ => ⟨hk_.1.1.2, hk_.1.2⟩)); have n4_ := am (hb); clear BK946; clear HO949; clear HO954; clear HO958; clear HB; have BK946 := n0_; have HO949 := n1_; have HO954 := n2_; have HO958 := n3_; have HB := n4_; clear n0_ n1_ n2_ n3_ n4_; (try clear hb); (try clear hkp); (try clear hy0); obtain ⟨Ao27, co27, eo27⟩ := Kd.R_slice HO958.out; subst eo27) | ((with_reducible refine gate_callee (f := 62) rfl ?_); refine goesL_ (some 40) rfl rfl Tryd.func62 (by kernel_rfl) rfl #[.slice Ao27 t956.length co27] rfl ar ?_; (with_reducible refine (vellumlaw04_wipe.calls k (fun k_ => some k_ = (.slice Ao27 t956.length co27 : Value).ownBlock) (.slice Ao27 t956.length co27) t956 t961 w _ ?side1 ?side2 A9.out).mono ?_); (case side1 => repeat (first | (with_reducible first | exact HB.out | apply below_alloc | apply pw_below_drewN | apply below_drew1 | refine below_set ?_ GE946.out) | exact HB.out)); (case side2 => exact Kd.R_tight rfl HO958.out); rintro e w28 ⟨rfl, hy0, hb, hkp⟩; refine ⟨_, rfl, ?_⟩; have n0_ := am (blk_kept (bk BK946) hkp (fun hs_ => (fun e_ => (Kd.R_ne HO958.out BK946.out (by decide)) e_) hs_)); have n1_ := am (Kd.R_mono (ok' := fun k_ => some k_ ≠ (.slice Ao25 t952.length co25 : Value).ownBlock ∧ some k_ ≠ (.slice Ao27 t956.length co27 : Value).ownBlock) (Kd.R_keptB (HO949.out) hkp (fun k_ hk_ hs_ => (hk_.2) hs_)) (fun k_ hk_ => ⟨hk_.1.1, hk_.1.2⟩)); have n2_ := am (Kd.R_mono (ok' := fun k_ => some k_ ≠ (.slice Ao19 t947.length co19 : Value).ownBlock ∧ some k_ ≠ (.slice Ao27 t956.length co27 : Value).ownBlock) (Kd.R_keptB (HO954.out) hkp (fun k_ hk_ hs_ => (hk_.2) hs_)) (fun k_ hk_ => ⟨hk_.1.1.2, hk_.1.2⟩)); have n3_ := am (Kd.R_reok rfl hy0 (fun k_ e_ => HO958.out.1 k_ e_)); have n4_ := am (hb); clear BK946; clear HO949; clear HO954; clear HO958; clear HB; have BK946 := n0_; have HO949 := n1_; have HO954 := n2_; have HO958 := n3_; have HB := n4_; clear n0_ n1_ n2_ n3_ n4_; (try clear hb); (try clear hkp); (try clear hy0); obtain ⟨Z29_0, Z29_1, Z29_2, Z29_3, Z29_4, Y29_0, Y29_1, Y29_2, Y29_3, Y29_4⟩ := bq5 BK946) | ((with_reducible refine gate_callee (f := 52) rfl ?_); refine goesL_ (some 44) rfl rfl Tryd.func52 (by kernel_rfl) rfl #[.agg #[.string a0_0, .slice A0_1 l0_1.length c0_1, .slice A0_2 l0_2.length c0_2, .slice A0_3 l0_3.length c0_3, .slice A0_4 l0_4.length c0_4], .slice Ao19 t947.length co19] rfl ar ?_; (with_reducible refine (row_Encode.calls k a0_0 _ _ l0_1 _ _ l0_2 _ _ l0_3 _ _ l0_4 _ _ t947 t962 t963 _ (Kd.cb HR0_1 HB) HC0_1.out (Kd.cb HR0_2 HB) HC0_2.out (Kd.cb HR0_3 HB) HC0_3.out (Kd.cb HR0_4 HB) HC0_4.out ?side9 ?side10 (Glob.below HG.out (bl HB)) A10.out).mono ?_); (case side9 => repeat (first | exact (Kd.R_reads' HO949.out).2.2 | (with_reducible refine Kd.C_alloc ?_ _) | (with_reducible refine Kd.C_drewN ?_ _) | (with_reducible refine Kd.C_drew ?_))); (case side10 => exact (Kd.R_reads' HO949.out).2.1); rintro e w30 ⟨rfl, hb⟩; refine ⟨_, rfl, ?_⟩; have n0_ := am (Kd.R_below (Kd.rr HO949.out) hb); have n1_ := am (Kd.R_below (Kd.rr HO954.out) hb); have n2_ := am (Kd.R_below (Kd.rr HO958.out) hb); have n3_ := kb BK946 hb; have n4_ := sb HB hb; clear HO949; clear HO954; clear HO958; clear BK946; clear HB; have HO949 := n0_; have HO954 := n1_; have HO958 := n2_; have BK946 := n3_; have HB := n4_; clear n0_ n1_ n2_ n3_ n4_; (try clear hb); (try clear hb2 hk hi)) | (go_at_call 45; (with_reducible refine (vellumref01_SameRow.calls k _ _ t947 _ _ l1 true _ ?side1 ?side2 (Kd.cb HR1 HB) HC1.out A13.out).mono ?_); (case side1 => repeat (first | exact (Kd.R_reads' HO949.out).2.2 | (with_reducible refine Kd.C_alloc ?_ _) | (with_reducible refine Kd.C_drewN ?_ _) | (with_reducible refine Kd.C_drew ?_))); (case side2 => exact (Kd.R_reads' HO949.out).2.1); rintro e w31 ⟨rfl, hb⟩; have n0_ := am (Kd.R_below (Kd.rr HO949.out) hb); have n1_ := am (Kd.R_below (Kd.rr HO954.out) hb); have n2_ := am (Kd.R_below (Kd.rr HO958.out) hb); have n3_ := kb BK946 hb; have n4_ := sb HB hb; clear HO949; clear HO954; clear HO958; clear BK946; clear HB; have HO949 := n0_; have HO954 := n1_; have HO958 := n2_; have BK946 := n3_; have HB := n4_; clear n0_ n1_ n2_ n3_ n4_; (try clear hb); (try clear hb2 hk hi)) | (go_at_call 54; (with_reducible refine (vellumlaw04_awake.calls k  t965 _ (Glob.below HG.out (bl HB)) A15.out).mono ?_); rintro e w32 ⟨rfl, hb⟩; have n0_ := am (Kd.R_below (Kd.rr HO949.out) hb); have n1_ := am (Kd.R_below (Kd.rr HO954.out) hb); have n2_ := am (Kd.R_below (Kd.rr HO958.out) hb); have n3_ := kb BK946 hb; have n4_ := sb HB hb; clear HO949; clear HO954; clear HO958; clear BK946; clear HB; have HO949 := n0_; have HO954 := n1_; have HO958 := n2_; have BK946 := n3_; have HB := n4_; clear n0_ n1_ n2_ n3_ n4_; (try clear hb); (try clear hb2 hk hi)))
        go_ret
        exact ⟨er, bl HB⟩
      · replace c14 := Bool.eq_false_iff.mpr c14
        subst c14
        have H1 : (some false) = some r := by rw [if_neg (show ¬ (false = true) by decide)] at H; exact H
        clear H
        have H := H1
        clear H1
        obtain rfl := Option.some.inj H
        go_enter Tryd.func18, Tryd.ntmps18
        go_wp2_with (first | ((with_reducible refine gate_dst (N := 3) rfl ?_); refine box_event rfl (N := 3) rfl (cs := #[.string a0_0, .slice A0_1 l0_1.length c0_1, .slice A0_2 l0_2.length c0_2, .slice A0_3 l0_3.length c0_3, .slice A0_4 l0_4.length c0_4]) (t := 65) gs ?_; intro gb946 hg w33 hbox hb; have BK946 := am (hbox); have GW946 := gw hg HB; have GE946 := gw hg HB; replace HB := sb HB hb; clear hb hbox hg) | ((with_reducible refine gate_callee (f := 51) rfl ?_); refine goesL_ (some 17) rfl rfl Tryd.func51 (by kernel_rfl) rfl #[.slice A1 l1.length c1] rfl ar ?_; (with_reducible refine (vellumref01_Row.calls k _ _ l1 t947 _ (Kd.cb HR1 HB) HC1.out A4.out).mono ?_); rintro e w34 ⟨v948, rfl, ho0, hb⟩; refine ⟨_, rfl, ?_⟩; have n0_ := am (Kd.R_lower ho0 (below_size (bl HB))); have n1_ := kb BK946 hb; have n2_ := sb HB hb; clear BK946; clear HB; have HO949 := n0_; have BK946 := n1_; have HB := n2_; clear n0_ n1_ n2_; (try clear hb); (try clear hb2 hk hi); (try clear ho0); obtain ⟨Z35_0, Z35_1, Z35_2, Z35_3, Z35_4, Y35_0, Y35_1, Y35_2, Y35_3, Y35_4⟩ := bq5 BK946; obtain ⟨Ao36, co36, eo36⟩ := Kd.R_slice HO949.out; subst eo36) | ((with_reducible refine gate_callee (f := 52) rfl ?_); refine goesL_ (some 21) rfl rfl Tryd.func52 (by kernel_rfl) rfl #[.agg #[.string a0_0, .slice A0_1 l0_1.length c0_1, .slice A0_2 l0_2.length c0_2, .slice A0_3 l0_3.length c0_3, .slice A0_4 l0_4.length c0_4], .slice Ao36 t947.length co36] rfl ar ?_; (with_reducible refine (row_Encode.calls k a0_0 _ _ l0_1 _ _ l0_2 _ _ l0_3 _ _ l0_4 _ _ t947 t950 t951 _ (Kd.cb HR0_1 HB) HC0_1.out (Kd.cb HR0_2 HB) HC0_2.out (Kd.cb HR0_3 HB) HC0_3.out (Kd.cb HR0_4 HB) HC0_4.out ?side9 ?side10 (Glob.below HG.out (bl HB)) A5.out).mono ?_); (case side9 => repeat (first | exact (Kd.R_reads' HO949.out).2.2 | (with_reducible refine Kd.C_alloc ?_ _) | (with_reducible refine Kd.C_drewN ?_ _) | (with_reducible refine Kd.C_drew ?_))); (case side10 => exact (Kd.R_reads' HO949.out).2.1); rintro e w37 ⟨rfl, hb⟩; refine ⟨_, rfl, ?_⟩; have n0_ := am (Kd.R_below (Kd.rr HO949.out) hb); have n1_ := kb BK946 hb; have n2_ := sb HB hb; clear HO949; clear BK946; clear HB; have HO949 := n0_; have BK946 := n1_; have HB := n2_; clear n0_ n1_ n2_; (try clear hb); (try clear hb2 hk hi); obtain ⟨Z38_0, Z38_1, Z38_2, Z38_3, Z38_4, Y38_0, Y38_1, Y38_2, Y38_3, Y38_4⟩ := bq5 BK946) | ((with_reducible refine gate_callee (f := 58) rfl ?_); refine goesL_ (some 27) rfl rfl Tryd.func58 (by kernel_rfl) rfl #[.agg #[.string a0_0, .slice A0_1 l0_1.length c0_1, .slice A0_2 l0_2.length c0_2, .slice A0_3 l0_3.length c0_3, .slice A0_4 l0_4.length c0_4], .string t950] rfl ar ?_; (with_reducible refine (row_Decode.calls k a0_0 _ _ l0_1 _ _ l0_2 _ _ l0_3 _ _ l0_4 t950 t952 t955 _ (Kd.cb HR0_1 HB) HC0_1.out (Kd.cb HR0_2 HB) HC0_2.out (Kd.cb HR0_3 HB) HC0_3.out (Kd.cb HR0_4 HB) HC0_4.out (Glob.below HG.out (bl HB)) A6.out).mono ?_); rintro e w39 ⟨v953, rfl, ho0, hb⟩; refine ⟨_, rfl, ?_⟩; have n0_ := am (Kd.R_elder' (Kd.rr HO949.out) (Kd.R_base ho0) hb); have n1_ := am (Kd.R_lower (Kd.R_new' ho0 (Kd.R_lt (Kd.rr HO949.out))) (below_size (bl HB))); have n2_ := kb BK946 hb; have n3_ := sb HB hb; clear HO949; clear BK946; clear HB; have HO949 := n0_; have HO954 := n1_; have BK946 := n2_; have HB := n3_; clear n0_ n1_ n2_ n3_; (try clear hb); (try clear hb2 hk hi); (try clear ho0); obtain ⟨Z40_0, Z40_1, Z40_2, Z40_3, Z40_4, Y40_0, Y40_1, Y40_2, Y40_3, Y40_4⟩ := bq5 BK946) | ((with_reducible refine gate_callee (f := 60) rfl ?_); refine goesL_ (some 34) rfl rfl Tryd.func60 (by kernel_rfl) rfl #[.agg #[.string a0_0, .slice A0_1 l0_1.length c0_1, .slice A0_2 l0_2.length c0_2, .slice A0_3 l0_3.length c0_3, .slice A0_4 l0_4.length c0_4], .slice Ao36 t947.length co36, .string a2] rfl ar ?_; (with_reducible refine (row_Apply.calls k a0_0 _ _ l0_1 _ _ l0_2 _ _ l0_3 _ _ l0_4 _ _ t947 a2 t956 t959 _ (Kd.cb HR0_1 HB) HC0_1.out (Kd.cb HR0_2 HB) HC0_2.out (Kd.cb HR0_3 HB) HC0_3.out (Kd.cb HR0_4 HB) HC0_4.out ?side9 ?side10 (Glob.below HG.out (bl HB)) A7.out).mono ?_); (case side9 => repeat (first | exact (Kd.R_reads' HO949.out).2.2 | (with_reducible refine Kd.C_alloc ?_ _) | (with_reducible refine Kd.C_drewN ?_ _) | (with_reducible refine Kd.C_drew ?_))); (case side10 => exact (Kd.R_reads' HO949.out).2.1); rintro e w41 ⟨v957, rfl, ho0, hb⟩; refine ⟨_, rfl, ?_⟩; have n0_ := am (Kd.R_elder' (Kd.rr HO949.out) (Kd.R_base ho0) hb); have n1_ := am (Kd.R_elder' (Kd.rr HO954.out) (Kd.R_base ho0) hb); have n2_ := am (Kd.R_lower (Kd.R_new' (Kd.R_new' ho0 (Kd.R_lt (Kd.rr HO949.out))) (Kd.R_lt (Kd.rr HO954.out))) (below_size (bl HB))); have n3_ := kb BK946 hb; have n4_ := sb HB hb; clear HO949; clear HO954; clear BK946; clear HB; have HO949 := n0_; have HO954 := n1_; have HO958 := n2_; have BK946 := n3_; have HB := n4_; clear n0_ n1_ n2_ n3_ n4_; (try clear hb); (try clear hb2 hk hi); (try clear ho0); obtain ⟨Ao42, co42, eo42⟩ := Kd.R_slice HO954.out; subst eo42) | ((with_reducible refine gate_callee (f := 62) rfl ?_); refine goesL_ (some 38) rfl rfl Tryd.func62 (by kernel_rfl) rfl #[.slice Ao42 t952.length co42] rfl ar ?_; (with_reducible refine (vellumlaw04_wipe.calls k (fun k_ => some k_ = (.slice Ao42 t952.length co42 : Value).ownBlock) (.slice Ao42 t952.length co42) t952 t960 w _ ?side1 ?side2 A8.out).mono ?_); (case side1 => repeat (first | (with_reducible first | exact HB.out | apply below_alloc | apply pw_below_drewN | apply below_drew1 | refine below_set ?_ GE946.out) | exact HB.out)); (case side2 => exact Kd.R_tight rfl HO954.out); rintro e w43 ⟨rfl, hy0, hb, hkp⟩; refine ⟨_, rfl, ?_⟩; have n0_ := am (blk_kept (bk BK946) hkp (fun hs_ => (fun e_ => (Kd.R_ne HO954.out BK946.out (by decide)) e_) hs_)); have n1_ := am (Kd.R_mono (ok' := fun k_ => some k_ ≠ (.slice Ao42 t952.length co42 : Value).ownBlock ∧ some k_ ≠ (v957 : Value).ownBlock) (Kd.R_keptB (HO949.out) hkp (fun k_ hk_ hs_ => (hk_.1.2) hs_)) (fun k_ hk_ => ⟨hk_.1.1.2, hk_.1.2⟩)); have n2_ := am (Kd.R_reok rfl hy0 (fun k_ e_ => HO954.out.1 k_ e_)); have n3_ := am (Kd.R_mono (ok' := fun k_ => some k_ ≠ (.slice Ao36 t947.length co36 : Value).ownBlock ∧ some k_ ≠ (.slice Ao42 t952.length co42 : Value).ownBlock) (Kd.R_keptB (HO958.out) hkp (fun k_ hk_ hs_ => (hk_.2) hs_)) (fun k_ hk_ => ⟨hk_.1.1.2, hk_.1.2⟩)); have n4_ := am (hb); clear BK946; clear HO949; clear HO954; clear HO958; clear HB; have BK946 := n0_; have HO949 := n1_; have HO954 := n2_; have HO958 := n3_; have HB := n4_; clear n0_ n1_ n2_ n3_ n4_; (try clear hb); (try clear hkp); (try clear hy0); obtain ⟨Ao44, co44, eo44⟩ := Kd.R_slice HO958.out; subst eo44) | ((with_reducible refine gate_callee (f := 62) rfl ?_); refine goesL_ (some 40) rfl rfl Tryd.func62 (by kernel_rfl) rfl #[.slice Ao44 t956.length co44] rfl ar ?_; (with_reducible refine (vellumlaw04_wipe.calls k (fun k_ => some k_ = (.slice Ao44 t956.length co44 : Value).ownBlock) (.slice Ao44 t956.length co44) t956 t961 w _ ?side1 ?side2 A9.out).mono ?_); (case side1 => repeat (first | (with_reducible first | exact HB.out | apply below_alloc | apply pw_below_drewN | apply below_drew1 | refine below_set ?_ GE946.out) | exact HB.out)); (case side2 => exact Kd.R_tight rfl HO958.out); rintro e w45 ⟨rfl, hy0, hb, hkp⟩; refine ⟨_, rfl, ?_⟩; have n0_ := am (blk_kept (bk BK946) hkp (fun hs_ => (fun e_ => (Kd.R_ne HO958.out BK946.out (by decide)) e_) hs_)); have n1_ := am (Kd.R_mono (ok' := fun k_ => some k_ ≠ (.slice Ao42 t952.length co42 : Value).ownBlock ∧ some k_ ≠ (.slice Ao44 t956.length co44 : Value).ownBlock) (Kd.R_keptB (HO949.out) hkp (fun k_ hk_ hs_ => (hk_.2) hs_)) (fun k_ hk_ => ⟨hk_.1.1, hk_.1.2⟩)); have n2_ := am (Kd.R_mono (ok' := fun k_ => some k_ ≠ (.slice Ao36 t947.length co36 : Value).ownBlock ∧ some k_ ≠ (.slice Ao44 t956.length co44 : Value).ownBlock) (Kd.R_keptB (HO954.out) hkp (fun k_ hk_ hs_ => (hk_.2) hs_)) (fun k_ hk_ => ⟨hk_.1.1.2, hk_.1.2⟩)); have n3_ := am (Kd.R_reok rfl hy0 (fun k_ e_ => HO958.out.1 k_ e_)); have n4_ := am (hb); clear BK946; clear HO949; clear HO954; clear HO958; clear HB; have BK946 := n0_; have HO949 := n1_; have HO954 := n2_; have HO958 := n3_; have HB := n4_; clear n0_ n1_ n2_ n3_ n4_; (try clear hb); (try clear hkp); (try clear hy0); obtain ⟨Z46_0, Z46_1, Z46_2, Z46_3, Z46_4, Y46_0, Y46_1, Y46_2, Y46_3, Y46_4⟩ := bq5 BK946) | ((with_reducible refine gate_callee (f := 52) rfl ?_); refine goesL_ (some 44) rfl rfl Tryd.func52 (by kernel_rfl) rfl #[.agg #[.string a0_0, .slice A0_1 l0_1.length c0_1, .slice A0_2 l0_2.length c0_2, .slice A0_3 l0_3.length c0_3, .slice A0_4 l0_4.length c0_4], .slice Ao36 t947.length co36] rfl ar ?_; (with_reducible refine (row_Encode.calls k a0_0 _ _ l0_1 _ _ l0_2 _ _ l0_3 _ _ l0_4 _ _ t947 t962 t963 _ (Kd.cb HR0_1 HB) HC0_1.out (Kd.cb HR0_2 HB) HC0_2.out (Kd.cb HR0_3 HB) HC0_3.out (Kd.cb HR0_4 HB) HC0_4.out ?side9 ?side10 (Glob.below HG.out (bl HB)) A10.out).mono ?_); (case side9 => repeat (first | exact (Kd.R_reads' HO949.out).2.2 | (with_reducible refine Kd.C_alloc ?_ _) | (with_reducible refine Kd.C_drewN ?_ _) | (with_reducible refine Kd.C_drew ?_))); (case side10 => exact (Kd.R_reads' HO949.out).2.1); rintro e w47 ⟨rfl, hb⟩; refine ⟨_, rfl, ?_⟩; have n0_ := am (Kd.R_below (Kd.rr HO949.out) hb); have n1_ := am (Kd.R_below (Kd.rr HO954.out) hb); have n2_ := am (Kd.R_below (Kd.rr HO958.out) hb); have n3_ := kb BK946 hb; have n4_ := sb HB hb; clear HO949; clear HO954; clear HO958; clear BK946; clear HB; have HO949 := n0_; have HO954 := n1_; have HO958 := n2_; have BK946 := n3_; have HB := n4_; clear n0_ n1_ n2_ n3_ n4_; (try clear hb); (try clear hb2 hk hi)) | (go_at_call 45; (with_reducible refine (vellumref01_SameRow.calls k _ _ t947 _ _ l1 false _ ?side1 ?side2 (Kd.cb HR1 HB) HC1.out A13.out).mono ?_); (case side1 => repeat (first | exact (Kd.R_reads' HO949.out).2.2 | (with_reducible refine Kd.C_alloc ?_ _) | (with_reducible refine Kd.C_drewN ?_ _) | (with_reducible refine Kd.C_drew ?_))); (case side2 => exact (Kd.R_reads' HO949.out).2.1); rintro e w48 ⟨rfl, hb⟩; have n0_ := am (Kd.R_below (Kd.rr HO949.out) hb); have n1_ := am (Kd.R_below (Kd.rr HO954.out) hb); have n2_ := am (Kd.R_below (Kd.rr HO958.out) hb); have n3_ := kb BK946 hb; have n4_ := sb HB hb; clear HO949; clear HO954; clear HO958; clear BK946; clear HB; have HO949 := n0_; have HO954 := n1_; have HO958 := n2_; have BK946 := n3_; have HB := n4_; clear n0_ n1_ n2_ n3_ n4_; (try clear hb); (try clear hb2 hk hi)))
        go_ret
        exact ⟨er, bl HB⟩
    · rw [if_neg c12] at H
      have c12b0 : (t950.toList == t962.toList) = false := beq_eq_false_iff_ne.mpr c12
      have c12b1 : (t950.toList != t962.toList) = true := bne_iff_ne.mpr c12
      obtain rfl := Option.some.inj H
      go_enter Tryd.func18, Tryd.ntmps18
      go_wp2_with (first | ((with_reducible refine gate_dst (N := 3) rfl ?_); refine box_event rfl (N := 3) rfl (cs := #[.string a0_0, .slice A0_1 l0_1.length c0_1, .slice A0_2 l0_2.length c0_2, .slice A0_3 l0_3.length c0_3, .slice A0_4 l0_4.length c0_4]) (t := 65) gs ?_; intro gb946 hg w49 hbox hb; have BK946 := am (hbox); have GW946 := gw hg HB; have GE946 := gw hg HB; replace HB := sb HB hb; clear hb hbox hg) | ((with_reducible refine gate_callee (f := 51) rfl ?_); refine goesL_ (some 17) rfl rfl Tryd.func51 (by kernel_rfl) rfl #[.slice A1 l1.length c1] rfl ar ?_; (with_reducible refine (vellumref01_Row.calls k _ _ l1 t947 _ (Kd.cb HR1 HB) HC1.out A4.out).mono ?_); rintro e w50 ⟨v948, rfl, ho0, hb⟩; refine ⟨_, rfl, ?_⟩; have n0_ := am (Kd.R_lower ho0 (below_size (bl HB))); have n1_ := kb BK946 hb; have n2_ := sb HB hb; clear BK946; clear HB; have HO949 := n0_; have BK946 := n1_; have HB := n2_; clear n0_ n1_ n2_; (try clear hb); (try clear hb2 hk hi); (try clear ho0); obtain ⟨Z51_0, Z51_1, Z51_2, Z51_3, Z51_4, Y51_0, Y51_1, Y51_2, Y51_3, Y51_4⟩ := bq5 BK946; obtain ⟨Ao52, co52, eo52⟩ := Kd.R_slice HO949.out; subst eo52) | ((with_reducible refine gate_callee (f := 52) rfl ?_); refine goesL_ (some 21) rfl rfl Tryd.func52 (by kernel_rfl) rfl #[.agg #[.string a0_0, .slice A0_1 l0_1.length c0_1, .slice A0_2 l0_2.length c0_2, .slice A0_3 l0_3.length c0_3, .slice A0_4 l0_4.length c0_4], .slice Ao52 t947.length co52] rfl ar ?_; (with_reducible refine (row_Encode.calls k a0_0 _ _ l0_1 _ _ l0_2 _ _ l0_3 _ _ l0_4 _ _ t947 t950 t951 _ (Kd.cb HR0_1 HB) HC0_1.out (Kd.cb HR0_2 HB) HC0_2.out (Kd.cb HR0_3 HB) HC0_3.out (Kd.cb HR0_4 HB) HC0_4.out ?side9 ?side10 (Glob.below HG.out (bl HB)) A5.out).mono ?_); (case side9 => repeat (first | exact (Kd.R_reads' HO949.out).2.2 | (with_reducible refine Kd.C_alloc ?_ _) | (with_reducible refine Kd.C_drewN ?_ _) | (with_reducible refine Kd.C_drew ?_))); (case side10 => exact (Kd.R_reads' HO949.out).2.1); rintro e w53 ⟨rfl, hb⟩; refine ⟨_, rfl, ?_⟩; have n0_ := am (Kd.R_below (Kd.rr HO949.out) hb); have n1_ := kb BK946 hb; have n2_ := sb HB hb; clear HO949; clear BK946; clear HB; have HO949 := n0_; have BK946 := n1_; have HB := n2_; clear n0_ n1_ n2_; (try clear hb); (try clear hb2 hk hi); obtain ⟨Z54_0, Z54_1, Z54_2, Z54_3, Z54_4, Y54_0, Y54_1, Y54_2, Y54_3, Y54_4⟩ := bq5 BK946) | ((with_reducible refine gate_callee (f := 58) rfl ?_); refine goesL_ (some 27) rfl rfl Tryd.func58 (by kernel_rfl) rfl #[.agg #[.string a0_0, .slice A0_1 l0_1.length c0_1, .slice A0_2 l0_2.length c0_2, .slice A0_3 l0_3.length c0_3, .slice A0_4 l0_4.length c0_4], .string t950] rfl ar ?_; (with_reducible refine (row_Decode.calls k a0_0 _ _ l0_1 _ _ l0_2 _ _ l0_3 _ _ l0_4 t950 t952 t955 _ (Kd.cb HR0_1 HB) HC0_1.out (Kd.cb HR0_2 HB) HC0_2.out (Kd.cb HR0_3 HB) HC0_3.out (Kd.cb HR0_4 HB) HC0_4.out (Glob.below HG.out (bl HB)) A6.out).mono ?_); rintro e w55 ⟨v953, rfl, ho0, hb⟩; refine ⟨_, rfl, ?_⟩; have n0_ := am (Kd.R_elder' (Kd.rr HO949.out) (Kd.R_base ho0) hb); have n1_ := am (Kd.R_lower (Kd.R_new' ho0 (Kd.R_lt (Kd.rr HO949.out))) (below_size (bl HB))); have n2_ := kb BK946 hb; have n3_ := sb HB hb; clear HO949; clear BK946; clear HB; have HO949 := n0_; have HO954 := n1_; have BK946 := n2_; have HB := n3_; clear n0_ n1_ n2_ n3_; (try clear hb); (try clear hb2 hk hi); (try clear ho0); obtain ⟨Z56_0, Z56_1, Z56_2, Z56_3, Z56_4, Y56_0, Y56_1, Y56_2, Y56_3, Y56_4⟩ := bq5 BK946) | ((with_reducible refine gate_callee (f := 60) rfl ?_); refine goesL_ (some 34) rfl rfl Tryd.func60 (by kernel_rfl) rfl #[.agg #[.string a0_0, .slice A0_1 l0_1.length c0_1, .slice A0_2 l0_2.length c0_2, .slice A0_3 l0_3.length c0_3, .slice A0_4 l0_4.length c0_4], .slice Ao52 t947.length co52, .string a2] rfl ar ?_; (with_reducible refine (row_Apply.calls k a0_0 _ _ l0_1 _ _ l0_2 _ _ l0_3 _ _ l0_4 _ _ t947 a2 t956 t959 _ (Kd.cb HR0_1 HB) HC0_1.out (Kd.cb HR0_2 HB) HC0_2.out (Kd.cb HR0_3 HB) HC0_3.out (Kd.cb HR0_4 HB) HC0_4.out ?side9 ?side10 (Glob.below HG.out (bl HB)) A7.out).mono ?_); (case side9 => repeat (first | exact (Kd.R_reads' HO949.out).2.2 | (with_reducible refine Kd.C_alloc ?_ _) | (with_reducible refine Kd.C_drewN ?_ _) | (with_reducible refine Kd.C_drew ?_))); (case side10 => exact (Kd.R_reads' HO949.out).2.1); rintro e w57 ⟨v957, rfl, ho0, hb⟩; refine ⟨_, rfl, ?_⟩; have n0_ := am (Kd.R_elder' (Kd.rr HO949.out) (Kd.R_base ho0) hb); have n1_ := am (Kd.R_elder' (Kd.rr HO954.out) (Kd.R_base ho0) hb); have n2_ := am (Kd.R_lower (Kd.R_new' (Kd.R_new' ho0 (Kd.R_lt (Kd.rr HO949.out))) (Kd.R_lt (Kd.rr HO954.out))) (below_size (bl HB))); have n3_ := kb BK946 hb; have n4_ := sb HB hb; clear HO949; clear HO954; clear BK946; clear HB; have HO949 := n0_; have HO954 := n1_; have HO958 := n2_; have BK946 := n3_; have HB := n4_; clear n0_ n1_ n2_ n3_ n4_; (try clear hb); (try clear hb2 hk hi); (try clear ho0); obtain ⟨Ao58, co58, eo58⟩ := Kd.R_slice HO954.out; subst eo58) | ((with_reducible refine gate_callee (f := 62) rfl ?_); refine goesL_ (some 38) rfl rfl Tryd.func62 (by kernel_rfl) rfl #[.slice Ao58 t952.length co58] rfl ar ?_; (with_reducible refine (vellumlaw04_wipe.calls k (fun k_ => some k_ = (.slice Ao58 t952.length co58 : Value).ownBlock) (.slice Ao58 t952.length co58) t952 t960 w _ ?side1 ?side2 A8.out).mono ?_); (case side1 => repeat (first | (with_reducible first | exact HB.out | apply below_alloc | apply pw_below_drewN | apply below_drew1 | refine below_set ?_ GE946.out) | exact HB.out)); (case side2 => exact Kd.R_tight rfl HO954.out); rintro e w59 ⟨rfl, hy0, hb, hkp⟩; refine ⟨_, rfl, ?_⟩; have n0_ := am (blk_kept (bk BK946) hkp (fun hs_ => (fun e_ => (Kd.R_ne HO954.out BK946.out (by decide)) e_) hs_)); have n1_ := am (Kd.R_mono (ok' := fun k_ => some k_ ≠ (.slice Ao58 t952.length co58 : Value).ownBlock ∧ some k_ ≠ (v957 : Value).ownBlock) (Kd.R_keptB (HO949.out) hkp (fun k_ hk_ hs_ => (hk_.1.2) hs_)) (fun k_ hk_ => ⟨hk_.1.1.2, hk_.1.2⟩)); have n2_ := am (Kd.R_reok rfl hy0 (fun k_ e_ => HO954.out.1 k_ e_)); have n3_ := am (Kd.R_mono (ok' := fun k_ => some k_ ≠ (.slice Ao52 t947.length co52 : Value).ownBlock ∧ some k_ ≠ (.slice Ao58 t952.length co58 : Value).ownBlock) (Kd.R_keptB (HO958.out) hkp (fun k_ hk_ hs_ => (hk_.2) hs_)) (fun k_ hk_ => ⟨hk_.1.1.2, hk_.1.2⟩)); have n4_ := am (hb); clear BK946; clear HO949; clear HO954; clear HO958; clear HB; have BK946 := n0_; have HO949 := n1_; have HO954 := n2_; have HO958 := n3_; have HB := n4_; clear n0_ n1_ n2_ n3_ n4_; (try clear hb); (try clear hkp); (try clear hy0); obtain ⟨Ao60, co60, eo60⟩ := Kd.R_slice HO958.out; subst eo60) | ((with_reducible refine gate_callee (f := 62) rfl ?_); refine goesL_ (some 40) rfl rfl Tryd.func62 (by kernel_rfl) rfl #[.slice Ao60 t956.length co60] rfl ar ?_; (with_reducible refine (vellumlaw04_wipe.calls k (fun k_ => some k_ = (.slice Ao60 t956.length co60 : Value).ownBlock) (.slice Ao60 t956.length co60) t956 t961 w _ ?side1 ?side2 A9.out).mono ?_); (case side1 => repeat (first | (with_reducible first | exact HB.out | apply below_alloc | apply pw_below_drewN | apply below_drew1 | refine below_set ?_ GE946.out) | exact HB.out)); (case side2 => exact Kd.R_tight rfl HO958.out); rintro e w61 ⟨rfl, hy0, hb, hkp⟩; refine ⟨_, rfl, ?_⟩; have n0_ := am (blk_kept (bk BK946) hkp (fun hs_ => (fun e_ => (Kd.R_ne HO958.out BK946.out (by decide)) e_) hs_)); have n1_ := am (Kd.R_mono (ok' := fun k_ => some k_ ≠ (.slice Ao58 t952.length co58 : Value).ownBlock ∧ some k_ ≠ (.slice Ao60 t956.length co60 : Value).ownBlock) (Kd.R_keptB (HO949.out) hkp (fun k_ hk_ hs_ => (hk_.2) hs_)) (fun k_ hk_ => ⟨hk_.1.1, hk_.1.2⟩)); have n2_ := am (Kd.R_mono (ok' := fun k_ => some k_ ≠ (.slice Ao52 t947.length co52 : Value).ownBlock ∧ some k_ ≠ (.slice Ao60 t956.length co60 : Value).ownBlock) (Kd.R_keptB (HO954.out) hkp (fun k_ hk_ hs_ => (hk_.2) hs_)) (fun k_ hk_ => ⟨hk_.1.1.2, hk_.1.2⟩)); have n3_ := am (Kd.R_reok rfl hy0 (fun k_ e_ => HO958.out.1 k_ e_)); have n4_ := am (hb); clear BK946; clear HO949; clear HO954; clear HO958; clear HB; have BK946 := n0_; have HO949 := n1_; have HO954 := n2_; have HO958 := n3_; have HB := n4_; clear n0_ n1_ n2_ n3_ n4_; (try clear hb); (try clear hkp); (try clear hy0); obtain ⟨Z62_0, Z62_1, Z62_2, Z62_3, Z62_4, Y62_0, Y62_1, Y62_2, Y62_3, Y62_4⟩ := bq5 BK946) | ((with_reducible refine gate_callee (f := 52) rfl ?_); refine goesL_ (some 44) rfl rfl Tryd.func52 (by kernel_rfl) rfl #[.agg #[.string a0_0, .slice A0_1 l0_1.length c0_1, .slice A0_2 l0_2.length c0_2, .slice A0_3 l0_3.length c0_3, .slice A0_4 l0_4.length c0_4], .slice Ao52 t947.length co52] rfl ar ?_; (with_reducible refine (row_Encode.calls k a0_0 _ _ l0_1 _ _ l0_2 _ _ l0_3 _ _ l0_4 _ _ t947 t962 t963 _ (Kd.cb HR0_1 HB) HC0_1.out (Kd.cb HR0_2 HB) HC0_2.out (Kd.cb HR0_3 HB) HC0_3.out (Kd.cb HR0_4 HB) HC0_4.out ?side9 ?side10 (Glob.below HG.out (bl HB)) A10.out).mono ?_); (case side9 => repeat (first | exact (Kd.R_reads' HO949.out).2.2 | (with_reducible refine Kd.C_alloc ?_ _) | (with_reducible refine Kd.C_drewN ?_ _) | (with_reducible refine Kd.C_drew ?_))); (case side10 => exact (Kd.R_reads' HO949.out).2.1); rintro e w63 ⟨rfl, hb⟩; refine ⟨_, rfl, ?_⟩; have n0_ := am (Kd.R_below (Kd.rr HO949.out) hb); have n1_ := am (Kd.R_below (Kd.rr HO954.out) hb); have n2_ := am (Kd.R_below (Kd.rr HO958.out) hb); have n3_ := kb BK946 hb; have n4_ := sb HB hb; clear HO949; clear HO954; clear HO958; clear BK946; clear HB; have HO949 := n0_; have HO954 := n1_; have HO958 := n2_; have BK946 := n3_; have HB := n4_; clear n0_ n1_ n2_ n3_ n4_; (try clear hb); (try clear hb2 hk hi)))
      go_ret
      exact ⟨er, bl HB⟩
  · rw [if_neg c11] at H
    have c11b0 : (t951 == t963) = false := beq_eq_false_iff_ne.mpr c11
    have c11b1 : (t951 != t963) = true := bne_iff_ne.mpr c11
    obtain rfl := Option.some.inj H
    go_enter Tryd.func18, Tryd.ntmps18
    go_wp2_with (first | ((with_reducible refine gate_dst (N := 3) rfl ?_); refine box_event rfl (N := 3) rfl (cs := #[.string a0_0, .slice A0_1 l0_1.length c0_1, .slice A0_2 l0_2.length c0_2, .slice A0_3 l0_3.length c0_3, .slice A0_4 l0_4.length c0_4]) (t := 65) gs ?_; intro gb946 hg w64 hbox hb; have BK946 := am (hbox); have GW946 := gw hg HB; have GE946 := gw hg HB; replace HB := sb HB hb; clear hb hbox hg) | ((with_reducible refine gate_callee (f := 51) rfl ?_); refine goesL_ (some 17) rfl rfl Tryd.func51 (by kernel_rfl) rfl #[.slice A1 l1.length c1] rfl ar ?_; (with_reducible refine (vellumref01_Row.calls k _ _ l1 t947 _ (Kd.cb HR1 HB) HC1.out A4.out).mono ?_); rintro e w65 ⟨v948, rfl, ho0, hb⟩; refine ⟨_, rfl, ?_⟩; have n0_ := am (Kd.R_lower ho0 (below_size (bl HB))); have n1_ := kb BK946 hb; have n2_ := sb HB hb; clear BK946; clear HB; have HO949 := n0_; have BK946 := n1_; have HB := n2_; clear n0_ n1_ n2_; (try clear hb); (try clear hb2 hk hi); (try clear ho0); obtain ⟨Z66_0, Z66_1, Z66_2, Z66_3, Z66_4, Y66_0, Y66_1, Y66_2, Y66_3, Y66_4⟩ := bq5 BK946; obtain ⟨Ao67, co67, eo67⟩ := Kd.R_slice HO949.out; subst eo67) | ((with_reducible refine gate_callee (f := 52) rfl ?_); refine goesL_ (some 21) rfl rfl Tryd.func52 (by kernel_rfl) rfl #[.agg #[.string a0_0, .slice A0_1 l0_1.length c0_1, .slice A0_2 l0_2.length c0_2, .slice A0_3 l0_3.length c0_3, .slice A0_4 l0_4.length c0_4], .slice Ao67 t947.length co67] rfl ar ?_; (with_reducible refine (row_Encode.calls k a0_0 _ _ l0_1 _ _ l0_2 _ _ l0_3 _ _ l0_4 _ _ t947 t950 t951 _ (Kd.cb HR0_1 HB) HC0_1.out (Kd.cb HR0_2 HB) HC0_2.out (Kd.cb HR0_3 HB) HC0_3.out (Kd.cb HR0_4 HB) HC0_4.out ?side9 ?side10 (Glob.below HG.out (bl HB)) A5.out).mono ?_); (case side9 => repeat (first | exact (Kd.R_reads' HO949.out).2.2 | (with_reducible refine Kd.C_alloc ?_ _) | (with_reducible refine Kd.C_drewN ?_ _) | (with_reducible refine Kd.C_drew ?_))); (case side10 => exact (Kd.R_reads' HO949.out).2.1); rintro e w68 ⟨rfl, hb⟩; refine ⟨_, rfl, ?_⟩; have n0_ := am (Kd.R_below (Kd.rr HO949.out) hb); have n1_ := kb BK946 hb; have n2_ := sb HB hb; clear HO949; clear BK946; clear HB; have HO949 := n0_; have BK946 := n1_; have HB := n2_; clear n0_ n1_ n2_; (try clear hb); (try clear hb2 hk hi); obtain ⟨Z69_0, Z69_1, Z69_2, Z69_3, Z69_4, Y69_0, Y69_1, Y69_2, Y69_3, Y69_4⟩ := bq5 BK946) | ((with_reducible refine gate_callee (f := 58) rfl ?_); refine goesL_ (some 27) rfl rfl Tryd.func58 (by kernel_rfl) rfl #[.agg #[.string a0_0, .slice A0_1 l0_1.length c0_1, .slice A0_2 l0_2.length c0_2, .slice A0_3 l0_3.length c0_3, .slice A0_4 l0_4.length c0_4], .string t950] rfl ar ?_; (with_reducible refine (row_Decode.calls k a0_0 _ _ l0_1 _ _ l0_2 _ _ l0_3 _ _ l0_4 t950 t952 t955 _ (Kd.cb HR0_1 HB) HC0_1.out (Kd.cb HR0_2 HB) HC0_2.out (Kd.cb HR0_3 HB) HC0_3.out (Kd.cb HR0_4 HB) HC0_4.out (Glob.below HG.out (bl HB)) A6.out).mono ?_); rintro e w70 ⟨v953, rfl, ho0, hb⟩; refine ⟨_, rfl, ?_⟩; have n0_ := am (Kd.R_elder' (Kd.rr HO949.out) (Kd.R_base ho0) hb); have n1_ := am (Kd.R_lower (Kd.R_new' ho0 (Kd.R_lt (Kd.rr HO949.out))) (below_size (bl HB))); have n2_ := kb BK946 hb; have n3_ := sb HB hb; clear HO949; clear BK946; clear HB; have HO949 := n0_; have HO954 := n1_; have BK946 := n2_; have HB := n3_; clear n0_ n1_ n2_ n3_; (try clear hb); (try clear hb2 hk hi); (try clear ho0); obtain ⟨Z71_0, Z71_1, Z71_2, Z71_3, Z71_4, Y71_0, Y71_1, Y71_2, Y71_3, Y71_4⟩ := bq5 BK946) | ((with_reducible refine gate_callee (f := 60) rfl ?_); refine goesL_ (some 34) rfl rfl Tryd.func60 (by kernel_rfl) rfl #[.agg #[.string a0_0, .slice A0_1 l0_1.length c0_1, .slice A0_2 l0_2.length c0_2, .slice A0_3 l0_3.length c0_3, .slice A0_4 l0_4.length c0_4], .slice Ao67 t947.length co67, .string a2] rfl ar ?_; (with_reducible refine (row_Apply.calls k a0_0 _ _ l0_1 _ _ l0_2 _ _ l0_3 _ _ l0_4 _ _ t947 a2 t956 t959 _ (Kd.cb HR0_1 HB) HC0_1.out (Kd.cb HR0_2 HB) HC0_2.out (Kd.cb HR0_3 HB) HC0_3.out (Kd.cb HR0_4 HB) HC0_4.out ?side9 ?side10 (Glob.below HG.out (bl HB)) A7.out).mono ?_); (case side9 => repeat (first | exact (Kd.R_reads' HO949.out).2.2 | (with_reducible refine Kd.C_alloc ?_ _) | (with_reducible refine Kd.C_drewN ?_ _) | (with_reducible refine Kd.C_drew ?_))); (case side10 => exact (Kd.R_reads' HO949.out).2.1); rintro e w72 ⟨v957, rfl, ho0, hb⟩; refine ⟨_, rfl, ?_⟩; have n0_ := am (Kd.R_elder' (Kd.rr HO949.out) (Kd.R_base ho0) hb); have n1_ := am (Kd.R_elder' (Kd.rr HO954.out) (Kd.R_base ho0) hb); have n2_ := am (Kd.R_lower (Kd.R_new' (Kd.R_new' ho0 (Kd.R_lt (Kd.rr HO949.out))) (Kd.R_lt (Kd.rr HO954.out))) (below_size (bl HB))); have n3_ := kb BK946 hb; have n4_ := sb HB hb; clear HO949; clear HO954; clear BK946; clear HB; have HO949 := n0_; have HO954 := n1_; have HO958 := n2_; have BK946 := n3_; have HB := n4_; clear n0_ n1_ n2_ n3_ n4_; (try clear hb); (try clear hb2 hk hi); (try clear ho0); obtain ⟨Ao73, co73, eo73⟩ := Kd.R_slice HO954.out; subst eo73) | ((with_reducible refine gate_callee (f := 62) rfl ?_); refine goesL_ (some 38) rfl rfl Tryd.func62 (by kernel_rfl) rfl #[.slice Ao73 t952.length co73] rfl ar ?_; (with_reducible refine (vellumlaw04_wipe.calls k (fun k_ => some k_ = (.slice Ao73 t952.length co73 : Value).ownBlock) (.slice Ao73 t952.length co73) t952 t960 w _ ?side1 ?side2 A8.out).mono ?_); (case side1 => repeat (first | (with_reducible first | exact HB.out | apply below_alloc | apply pw_below_drewN | apply below_drew1 | refine below_set ?_ GE946.out) | exact HB.out)); (case side2 => exact Kd.R_tight rfl HO954.out); rintro e w74 ⟨rfl, hy0, hb, hkp⟩; refine ⟨_, rfl, ?_⟩; have n0_ := am (blk_kept (bk BK946) hkp (fun hs_ => (fun e_ => (Kd.R_ne HO954.out BK946.out (by decide)) e_) hs_)); have n1_ := am (Kd.R_mono (ok' := fun k_ => some k_ ≠ (.slice Ao73 t952.length co73 : Value).ownBlock ∧ some k_ ≠ (v957 : Value).ownBlock) (Kd.R_keptB (HO949.out) hkp (fun k_ hk_ hs_ => (hk_.1.2) hs_)) (fun k_ hk_ => ⟨hk_.1.1.2, hk_.1.2⟩)); have n2_ := am (Kd.R_reok rfl hy0 (fun k_ e_ => HO954.out.1 k_ e_)); have n3_ := am (Kd.R_mono (ok' := fun k_ => some k_ ≠ (.slice Ao67 t947.length co67 : Value).ownBlock ∧ some k_ ≠ (.slice Ao73 t952.length co73 : Value).ownBlock) (Kd.R_keptB (HO958.out) hkp (fun k_ hk_ hs_ => (hk_.2) hs_)) (fun k_ hk_ => ⟨hk_.1.1.2, hk_.1.2⟩)); have n4_ := am (hb); clear BK946; clear HO949; clear HO954; clear HO958; clear HB; have BK946 := n0_; have HO949 := n1_; have HO954 := n2_; have HO958 := n3_; have HB := n4_; clear n0_ n1_ n2_ n3_ n4_; (try clear hb); (try clear hkp); (try clear hy0); obtain ⟨Ao75, co75, eo75⟩ := Kd.R_slice HO958.out; subst eo75) | ((with_reducible refine gate_callee (f := 62) rfl ?_); refine goesL_ (some 40) rfl rfl Tryd.func62 (by kernel_rfl) rfl #[.slice Ao75 t956.length co75] rfl ar ?_; (with_reducible refine (vellumlaw04_wipe.calls k (fun k_ => some k_ = (.slice Ao75 t956.length co75 : Value).ownBlock) (.slice Ao75 t956.length co75) t956 t961 w _ ?side1 ?side2 A9.out).mono ?_); (case side1 => repeat (first | (with_reducible first | exact HB.out | apply below_alloc | apply pw_below_drewN | apply below_drew1 | refine below_set ?_ GE946.out) | exact HB.out)); (case side2 => exact Kd.R_tight rfl HO958.out); rintro e w76 ⟨rfl, hy0, hb, hkp⟩; refine ⟨_, rfl, ?_⟩; have n0_ := am (blk_kept (bk BK946) hkp (fun hs_ => (fun e_ => (Kd.R_ne HO958.out BK946.out (by decide)) e_) hs_)); have n1_ := am (Kd.R_mono (ok' := fun k_ => some k_ ≠ (.slice Ao73 t952.length co73 : Value).ownBlock ∧ some k_ ≠ (.slice Ao75 t956.length co75 : Value).ownBlock) (Kd.R_keptB (HO949.out) hkp (fun k_ hk_ hs_ => (hk_.2) hs_)) (fun k_ hk_ => ⟨hk_.1.1, hk_.1.2⟩)); have n2_ := am (Kd.R_mono (ok' := fun k_ => some k_ ≠ (.slice Ao67 t947.length co67 : Value).ownBlock ∧ some k_ ≠ (.slice Ao75 t956.length co75 : Value).ownBlock) (Kd.R_keptB (HO954.out) hkp (fun k_ hk_ hs_ => (hk_.2) hs_)) (fun k_ hk_ => ⟨hk_.1.1.2, hk_.1.2⟩)); have n3_ := am (Kd.R_reok rfl hy0 (fun k_ e_ => HO958.out.1 k_ e_)); have n4_ := am (hb); clear BK946; clear HO949; clear HO954; clear HO958; clear HB; have BK946 := n0_; have HO949 := n1_; have HO954 := n2_; have HO958 := n3_; have HB := n4_; clear n0_ n1_ n2_ n3_ n4_; (try clear hb); (try clear hkp); (try clear hy0); obtain ⟨Z77_0, Z77_1, Z77_2, Z77_3, Z77_4, Y77_0, Y77_1, Y77_2, Y77_3, Y77_4⟩ := bq5 BK946) | ((with_reducible refine gate_callee (f := 52) rfl ?_); refine goesL_ (some 44) rfl rfl Tryd.func52 (by kernel_rfl) rfl #[.agg #[.string a0_0, .slice A0_1 l0_1.length c0_1, .slice A0_2 l0_2.length c0_2, .slice A0_3 l0_3.length c0_3, .slice A0_4 l0_4.length c0_4], .slice Ao67 t947.length co67] rfl ar ?_; (with_reducible refine (row_Encode.calls k a0_0 _ _ l0_1 _ _ l0_2 _ _ l0_3 _ _ l0_4 _ _ t947 t962 t963 _ (Kd.cb HR0_1 HB) HC0_1.out (Kd.cb HR0_2 HB) HC0_2.out (Kd.cb HR0_3 HB) HC0_3.out (Kd.cb HR0_4 HB) HC0_4.out ?side9 ?side10 (Glob.below HG.out (bl HB)) A10.out).mono ?_); (case side9 => repeat (first | exact (Kd.R_reads' HO949.out).2.2 | (with_reducible refine Kd.C_alloc ?_ _) | (with_reducible refine Kd.C_drewN ?_ _) | (with_reducible refine Kd.C_drew ?_))); (case side10 => exact (Kd.R_reads' HO949.out).2.1); rintro e w78 ⟨rfl, hb⟩; refine ⟨_, rfl, ?_⟩; have n0_ := am (Kd.R_below (Kd.rr HO949.out) hb); have n1_ := am (Kd.R_below (Kd.rr HO954.out) hb); have n2_ := am (Kd.R_below (Kd.rr HO958.out) hb); have n3_ := kb BK946 hb; have n4_ := sb HB hb; clear HO949; clear HO954; clear HO958; clear BK946; clear HB; have HO949 := n0_; have HO954 := n1_; have HO958 := n2_; have BK946 := n3_; have HB := n4_; clear n0_ n1_ n2_ n3_ n4_; (try clear hb); (try clear hb2 hk hi)))
    go_ret
    exact ⟨er, bl HB⟩
end Go.Proofs.YtpiifdbicibelaaDoor.PA
end
section
namespace Go.Proofs.YtpiifdbicibelaaDoor.Pure
open Go.RowKit Go.Proofs Go.Proofs.YtpiifdbicibelaaDoorW.PrintWords Go.Proofs.YtpiifdbicibelaaDoorW.PrintLast Go.Proofs.YtpiifdbicibelaaDoorW.PrintMore Go.Proofs.YtpiifdbicibelaaDoor.PA Go.Proofs.YtpiifdbicibelaaDoor.OpenK
set_option linter.unusedVariables false
set_option linter.unusedSimpArgs false
def appOut (c : List S105) : Option (List S50) → List S50 × Int
  | none => ([], 41)
  | some o => if admRow c o = 0 then (o, 0) else ([], 41)
theorem one_slice' {α : Type} {ys : List α} {i : Nat} (h : i < ys.length) : (ys.take (i + 1)).drop i = [ys[i]] := by
  rw [List.take_succ_eq_append_getElem h, List.drop_append_of_le_length (by simp; omega), List.drop_of_length_le (by simp; omega)]
  rfl
theorem kinds_get {c : List S105} {i : Nat} (h : i < c.length) : rd (kindsOf c) (i : Int) = c[i].f1 := by
  rw [rd_int (by simpa [kindsOf] using h)]
  simp [kindsOf]
theorem rowR_one {k : Int} {L : List Int} {vs : List S50} {R : List Int} (hk : 1 ≤ k ∧ k ≤ 5) (hL : Bytes L) (hlen : L.length ≤ 65536) (h : rowR [k] L = some (vs, R)) :
    ∃ w, vs = [w] ∧ L = rowB [w] ++ R ∧ wf50 w ∧ w.f3.size ≤ 65536 ∧ R.length ≤ L.length ∧ R = L.drop (L.length - R.length) := by
  obtain ⟨h1, h2, h3⟩ := rowR_sound (fun x hx => by rw [List.mem_singleton] at hx; subst hx; exact hk) hL hlen h
  have hl := rowR_len h
  match vs, h2 with
  | [w], _ =>
    refine ⟨w, rfl, h1, (h3 w (by simp)).1, (h3 w (by simp)).2, hl, ?_⟩
    have hll := congrArg List.length h1
    rw [List.length_append] at hll
    have e2 : L.length - R.length = (rowB [w]).length := by omega
    rw [e2]
    conv => rhs; rw [h1]
    simp
theorem admRow_set {c : List S105} {out : List S50} {i : Nat} {w : S50} (hl : out.length = c.length) (hi : i < c.length) (h : admRow c out = 0) (hw : fitB c[i] w = true) : admRow c (out.set i w) = 0 := by
  rw [admRow_iff c _ (by rw [List.length_set]; exact hl)]
  intro j h1 h2
  rw [List.length_set] at h1
  rw [List.getElem_set]
  split
  · rename_i e; subst e; exact hw
  · exact (admRow_iff c out hl).1 h j h1 h2
theorem admRow_bad {c : List S105} {ys : List S50} {i : Nat} {w : S50} (hl : ys.length = c.length) (hi : i < c.length) (hy : ys[i]? = some w) (hw : ¬ fitB c[i] w = true) : ¬ admRow c ys = 0 := by
  intro h
  have hi2 : i < ys.length := by omega
  have := (admRow_iff c ys hl).1 h i hi2 hi
  rw [List.getElem?_eq_getElem hi2, Option.some.injEq] at hy
  rw [hy] at this
  exact hw this
/-- What both sides do at a number. -/
theorem admRow_one (c : S105) (w : S50) : admRow [c] [w] = 0 ↔ fitB c w = true := by
  rw [admRow_cons]; simp [admRow]
theorem app_code (c : List S105) (hc : c.length ≤ 64) (hk : ∀ x ∈ c, 1 ≤ x.f1 ∧ x.f1 ≤ 5) (l : List S50) (hll : l.length = c.length) (a : ByteArray) (d : List Int) (e : List S115) (f : List S139) :
    ∀ (n nx : Nat) (out : List S50) (L : List Int), L.length < n → Bytes L → L.length ≤ 65536 → nx ≤ l.length → out.length = c.length → admRow c out = 0 →
    Ev (fun k => row_Apply.l0 k l (strOfNums L) out (nx : Int) a c d e f) (appOut c (appR (kindsOf c) l n nx out L))
  | 0, nx, out, L, hn, _, _, _, _, _ => by omega
  | n + 1, nx, out, L, hn, hL, hlen, hnx, hol, hadm => by
    by_cases h0 : L = []
    · refine Ev.from_ 1 fun k => ?_
      simp only [row_Apply.l0]
      rw [if_pos (str_empty.2 h0)]
      simp only [appR]
      rw [if_pos h0]
      simp only [appOut]
      rw [if_pos hadm]
    have hvar := varint_ev L hL (by omega)
    have hw1 : True → IntKind.u64.wrap (wrap64 ((l.length : Int) - (nx : Int))) = ((l.length - nx : Nat) : Int) := fun _ => by rw [wrap64_id (by omega) (by omega), u64_wrap_id (by omega) (by omega)]; omega
    have bad : ∀ (x y : Int) (s : ByteArray), Ev (fun k => row_Apply.j1 k l out x y s true a c d e f) (([] : List S50), (41 : Int)) := fun x y s => Ev.from_ 1 fun k => by
      simp only [row_Apply.j1]; rw [if_pos trivial]
    simp only [appR]
    rw [if_neg h0]
    cases hv : vr 0 L with
    | none =>
      rw [hv] at hvar
      refine Ev.dep2 hvar (bad (nx : Int) 0 (⟨#[]⟩ : ByteArray)) fun k hk1 hk2 => ?_
      simp only [row_Apply.l0]
      rw [if_neg (fun g => h0 (str_empty.1 g)), hk1]
      simp only [Option.bind_some]
      rw [if_neg (by decide)]
      exact hk2
    | some p =>
      obtain ⟨dd, R⟩ := p
      rw [hv] at hvar
      obtain ⟨v1, _, _, _⟩ := vr_sound 0 L dd R hL hv
      have hR : Bytes R := by rw [v1] at hL; exact hL.app.2
      have hl1 := vr_len 0 L dd R hv
      simp only
      by_cases hd : l.length - nx ≤ dd
      · rw [if_pos hd]
        refine Ev.dep2 hvar (bad (nx : Int) (dd : Int) (strOfNums R)) fun k hk1 hk2 => ?_
        simp only [row_Apply.l0]
        rw [if_neg (fun g => h0 (str_empty.1 g)), hk1]
        simp only [Option.bind_some]
        rw [if_pos trivial, hw1 trivial, decide_eq_true (by omega)]
        exact hk2
      · rw [if_neg hd]
        have hi : nx + dd < c.length := by omega
        have hil : nx + dd < l.length := by omega
        have hio : nx + dd < out.length := by omega
        have hki := hk _ (List.getElem_mem hi)
        rw [kinds_get hi]
        have hw2 : True → wrap64 ((nx : Int) + (wrap64 (dd : Int))) = ((nx + dd : Nat) : Int) := fun _ => by rw [wrap64_id (n := (dd : Int)) (by omega) (by omega), wrap64_id (by omega) (by omega)]; omega
        have hw3 : True → wrap64 (((nx + dd : Nat) : Int) + 1) = ((nx + dd + 1 : Nat) : Int) := fun _ => wrap_one (nx + dd) (by omega)
        obtain ⟨r, r1, r2⟩ := decode_ev4 [c[nx + dd]] (by simp) (fun x hx => by rw [List.mem_singleton] at hx; subst hx; exact hki) R hR (by omega)
        have hkk : kindsOf [c[nx + dd]] = [c[nx + dd].f1] := rfl
        rw [hkk] at r2
        have hj : ∀ v : List S50 × Int, Ev (fun k => row_Apply.j1 k l out (nx : Int) (dd : Int) (strOfNums R) false a c d e f) v → Ev (fun k => row_Apply.l0 k l (strOfNums L) out (nx : Int) a c d e f) v := fun v hv2 => by
          refine Ev.dep2 hvar hv2 fun k hk1 hk2 => ?_
          simp only [row_Apply.l0]
          rw [if_neg (fun g => h0 (str_empty.1 g)), hk1]
          simp only [Option.bind_some]
          rw [if_pos trivial, hw1 trivial, decide_eq_false (by omega)]
          exact hk2
        have jj : ∀ k, row_Apply.j1 (k + 1) l out (nx : Int) (dd : Int) (strOfNums R) false a c d e f = (row_decode.f k [c[nx + dd]] (strOfNums R)).bind fun bt896 => (if bt896.2.2 = true then (if 0 < (bt896.1.length : Int) then ((row_same.f ((rd_T50 bt896.1 0).f0) ((rd_T50 bt896.1 0).f1) ((rd_T50 bt896.1 0).f2) ((rd_T50 bt896.1 0).f3) (l[nx + dd].f0) (l[nx + dd].f1) (l[nx + dd].f2) (l[nx + dd].f3)).bind fun t903 => (if t903 = true then (some (([] : List (S50)), 41)) else (row_Apply.l0 k l bt896.2.1 (out.set (nx + dd) (⟨(rd_T50 bt896.1 0).f0, (rd_T50 bt896.1 0).f1, (rd_T50 bt896.1 0).f2, (rd_T50 bt896.1 0).f3⟩ : S50)) ((nx + dd + 1 : Nat) : Int) a c d e f))) else (none)) else (some (([] : List (S50)), 41))) := by
          intro k
          simp only [row_Apply.j1, hw2 trivial, hw3 trivial]
          have t1 : (0 : Int) ≤ ((nx + dd : Nat) : Int) := by omega
          have t2 : ((nx + dd : Nat) : Int) ≤ ((nx + dd + 1 : Nat) : Int) := by omega
          have t3 : ((nx + dd + 1 : Nat) : Int) ≤ (c.length : Int) := by omega
          have t4 : ((nx + dd : Nat) : Int) < (l.length : Int) := by omega
          have t5 : ((nx + dd : Nat) : Int) < (out.length : Int) := by omega
          rw [if_neg (by decide)]
          simp only [if_pos t1, if_pos t2, if_pos t3, if_pos t4, if_pos t5, Int.toNat_natCast, one_slice' hi, rd_get l (nx + dd) _ (List.getElem?_eq_getElem hil)]
        cases hr : rowR [c[nx + dd].f1] R with
        | none =>
          rw [hr] at r2
          refine hj _ (Ev.step jj (Ev.bind r1 (Ev.neg (by rw [show r.2.2 = false from r2]; decide) Ev.pure)))
        | some q =>
          obtain ⟨vs, R'⟩ := q
          rw [hr] at r2
          obtain ⟨w, rfl, e1, w1, w2, hl2, _⟩ := rowR_one hki hR (by omega) hr
          have hR' : Bytes R' := by rw [e1] at hR; exact hR.app.2
          simp only [decSpec] at r2
          simp only
          rw [rd_get l (nx + dd) _ (List.getElem?_eq_getElem hil)]
          by_cases hf : fitB c[nx + dd] w = true
          · rw [if_pos ((admRow_one _ _).2 hf)] at r2
            subst r2
            refine hj _ (Ev.step jj (Ev.bind r1 (Ev.pos rfl (Ev.pos (by show (0 : Int) < 1; decide) ?_))))
            have hrd : rd_T50 ([] ++ [w]) 0 = w := rfl
            simp only [hrd]
            refine Ev.bind (Ev.const (sm_code w l[nx + dd])) ?_
            cases hs : smB w l[nx + dd] with
            | true =>
              rw [if_pos rfl]
              exact Ev.pos rfl Ev.pure
            | false =>
              rw [if_neg (by decide)]
              refine Ev.neg (by decide) ?_
              exact app_code c hc hk l hll a d e f n (nx + dd + 1) (out.set (nx + dd) w) R' (by omega) hR' (by omega) (by omega) (by rw [List.length_set]; exact hol) (admRow_set hol hi hadm hf)
          · rw [if_neg (fun g => hf ((admRow_one _ _).1 g))] at r2
            have hres : Ev (fun k => row_Apply.l0 k l (strOfNums L) out (nx : Int) a c d e f) (([] : List S50), (41 : Int)) := hj _ (Ev.step jj (Ev.bind r1 (Ev.neg (by rw [r2]; decide) Ev.pure)))
            cases hs : smB w l[nx + dd] with
            | true =>
              rw [if_pos rfl]
              exact hres
            | false =>
              rw [if_neg (by decide)]
              cases ha : appR (kindsOf c) l n (nx + dd + 1) (out.set (nx + dd) w) R' with
              | none => exact hres
              | some ys =>
                obtain ⟨k1, k2⟩ := app_keep _ _ _ _ _ _ _ ha
                rw [List.length_set] at k1
                have := k2 (nx + dd) (by omega)
                rw [List.getElem?_set_self hio] at this
                have hb := admRow_bad (by omega) hi this hf
                have e2 : appOut c (some ys) = ([], 41) := if_neg hb
                rw [e2]; exact hres
/-- What both sides tell of a row behind a change. -/
def appRes (a : ByteArray) (c : List S105) (d : List Int) (e : List S115) (f : List S139) (l : List S50) (L : List Int) : List S50 × Int :=
  if admT a c d e f l = 0 then (if 65536 < L.length then ([], 3) else appOut c (appR (kindsOf c) l (L.length + 100) 0 l L)) else ([], admT a c d e f l)
theorem appRes_code {a : ByteArray} {c : List S105} {d : List Int} {e : List S115} {f : List S139} (h : WfT a c d e f) {l : List S50} (hl : ∀ v ∈ l, wf50 v) {L : List Int} (hL : Bytes L) : Ev (fun k => row_Apply.f k a c d e f l (strOfNums L)) (appRes a c d e f l L) := by
  simp only [row_Apply.f, admits_f h hl, Option.bind_some, str_size]
  unfold appRes
  by_cases h0 : admT a c d e f l = 0
  · rw [if_pos h0]
    refine Ev.pos h0 ?_
    by_cases hb : 65536 < L.length
    · rw [if_pos hb]; exact Ev.pos (by omega) Ev.pure
    · rw [if_neg hb]
      have hch := admT_check h0
      obtain ⟨h1, h2⟩ := (admT_iff hch).1 h0
      have hc := checkT_len hch
      refine Ev.neg (by omega) (Ev.pos (by rw [List.length_nil]; omega) ?_)
      exact app_code c hc (kinds_ok hch) l h1 a d e f (L.length + 100) 0 l L (by omega) hL (by omega) (by omega) h1 h2
  · rw [if_neg h0]; exact Ev.neg h0 Ev.pure
theorem row_copy (l : List S50) (hl : l.length * 40 ≤ 140737488351232) : Ev (fun k => vellumref01_Row.f k l) l := by
  have go : ∀ (m i : Nat), i + m = l.length → Ev (fun k => vellumref01_Row.l0 k l (l.take i) (i : Int)) l := by
    intro m
    induction m with
    | zero =>
      intro i hi
      refine Ev.from_ 1 fun k => ?_
      simp only [vellumref01_Row.l0]
      rw [if_neg (by omega), List.take_of_length_le (by omega)]
    | succ m ih =>
      intro i hi
      have hlt : i < l.length := by omega
      refine Ev.step (fun k => ?_) (ih (i + 1) (by omega))
      simp only [vellumref01_Row.l0]
      have htl : (l.take i).length = i := by rw [List.length_take]; omega
      rw [if_pos (by omega), if_pos (by omega), if_pos (by omega), rd_get l i _ (List.getElem?_eq_getElem hlt), wrap64_id (by omega) (by omega), List.take_succ_eq_append_getElem hlt]
      rfl
  exact go l.length 0 (by omega)
theorem appRes_len {a : ByteArray} {c : List S105} {d : List Int} {e : List S115} {f : List S139} {l : List S50} {L : List Int} : (appRes a c d e f l L).1.length ≤ 64 := by
  unfold appRes
  by_cases h0 : admT a c d e f l = 0
  · rw [if_pos h0]
    by_cases hb : 65536 < L.length
    · rw [if_pos hb]; simp
    · rw [if_neg hb]
      have hch := admT_check h0
      have hc := checkT_len hch
      obtain ⟨h1, h2⟩ := (admT_iff hch).1 h0
      cases ha : appR (kindsOf c) l (L.length + 100) 0 l L with
      | none => simp [appOut]
      | some ys =>
        obtain ⟨k1, _⟩ := app_keep _ _ _ _ _ _ _ ha
        simp only [appOut]
        split
        · simp only; omega
        · simp
  · rw [if_neg h0]; simp
theorem wipe_l0 : ∀ (m i : Nat) (l : List S50), i + m = l.length → l.length ≤ 1000 → ∃ r, Ev (fun k => vellumlaw04_wipe.l0 k l (i : Int)) r
  | 0, i, l, h, hl => ⟨l, Ev.from_ 1 fun k => by
      simp only [vellumlaw04_wipe.l0]
      rw [if_neg (by omega)]⟩
  | m + 1, i, l, h, hl => by
    obtain ⟨r, hr⟩ := wipe_l0 m (i + 1) (l.set i (⟨77, 0, 0, (⟨#[]⟩ : ByteArray)⟩ : S50)) (by rw [List.length_set]; omega) (by rw [List.length_set]; exact hl)
    refine ⟨r, Ev.step (fun k => ?_) hr⟩
    simp only [vellumlaw04_wipe.l0]
    rw [if_pos (by omega), if_pos (by omega), wrap64_id (by omega) (by omega)]
    rfl
theorem wipe_ev (l : List S50) (hl : l.length ≤ 1000) : ∃ r, Ev (fun k => vellumlaw04_wipe.f k l) r := wipe_l0 l.length 0 l (by omega) hl
theorem RowOwn (x0 : S65) (l1 : List S50) (a2 : ByteArray) (h0 : wf65 x0) (h1 : l1.length * 40 ≤ 140737488351232 ∧ ∀ y ∈ l1, wf50 y) (h2 : a2.size ≤ 140737488351232) : ∃ k, vellumlaw04_RowOwn.f k x0.f0 x0.f1 x0.f2 x0.f3 x0.f4 l1 a2 = some true := by
  refine Ev.ex ?_
  simp only [vellumlaw04_RowOwn.f]
  have hT := wf65_T h0
  have c1 := appRes_code hT h1.2 (bytesOf_bytes a2)
  rw [str_bytes] at c1
  have c2 := decR_code hT (bytesOf_bytes (encR x0.f0 x0.f1 x0.f2 x0.f3 x0.f4 l1).1)
  rw [str_bytes] at c2
  have hlen1 := appRes_len (a := x0.f0) (c := x0.f1) (d := x0.f2) (e := x0.f3) (f := x0.f4) (l := l1) (L := bytesOf a2)
  have hlen2 := decR_len (a := x0.f0) (c := x0.f1) (d := x0.f2) (e := x0.f3) (f := x0.f4) (bytesOf_bytes (encR x0.f0 x0.f1 x0.f2 x0.f3 x0.f4 l1).1)
  obtain ⟨r1, w1⟩ := wipe_ev _ (Nat.le_trans hlen1 (by decide))
  obtain ⟨r2, w2⟩ := wipe_ev _ (Nat.le_trans hlen2 (by decide))
  refine Ev.bind (row_copy l1 h1.1) (Ev.bind (encR_code hT h1.2) (Ev.bind c2 (Ev.bind c1 (Ev.bind w2 (Ev.bind w1 (Ev.bind (encR_code hT h1.2) (Ev.pos rfl (Ev.pos rfl (Ev.bind (same_ref _ _ (by omega)) (Ev.pos ?_ (Ev.bind awake4_ev Ev.pure)))))))))))
  rw [decide_eq_true rfl, sameL_self]; rfl
end Go.Proofs.YtpiifdbicibelaaDoor.Pure
end
section
namespace Go.Proofs.YtpiifdbicibelaaDoor
open Go.RowKit
theorem main_ : Tryd.pinned.checked.prog.mainIs = some (true, "409e20a6319c123f59629b35fea50f486835097bfbed967dc062cdc0fc9eff79".toList) := by kernel_rfl
theorem looks_ : false = Tryd.prog.looks [] := by kernel_rfl
end Go.Proofs.YtpiifdbicibelaaDoor
end
section
namespace Go.Proofs.YtpiifdbicibelaaDoor.rowOwn
open Go.ChangeShapes Go.WideShapes Go.ChangeAt Go.RowKit Go.Proofs.YtpiifdbicibelaaDoorW.PrintWords Go.Proofs.YtpiifdbicibelaaDoor.PA Go.Proofs.YtpiifdbicibelaaDoor.OpenK Go.Proofs.YtpiifdbicibelaaDoor.Pure
open Go.ChangeMaps (open_string shut_string)
set_option linter.unusedVariables false
theorem walk {H : Type} {enc : TypeId × Value → H} (W : World) (base : Nat) (args : Array Value) (ds : List (DataW H)) (ps : List MemPlace) (hA0 : DataW.TrodAll enc Tryd.prog W 0 (fun _ => true) true Tryd.f18.params.toList args.toList ds ps)
    (hw0 : (DataW.weightsEach Tryd.prog Tryd.f18.params.toList ds).all (· ≤ reachBytes) = true) (hval0 : ∀ (j : Nat) t v, Tryd.f18.params[j]? = some t → args[j]? = some v → Value.okWide Tryd.prog W .any base t v) (hG : Glob W) :
    Calls Tryd.prog 18 args W fun e W' => e = .returned (.bool true) ∧ Below W.heap.size W W' := by
  have hval : ∀ (j : Nat) t v, Tryd.f18.params[j]? = some t → args[j]? = some v → Value.okWide Tryd.prog W .any base t v := @hval0
  have hA : DataW.TrodAll enc Tryd.prog W 0 (fun _ => true) true Tryd.f18.params.toList args.toList ds ps := hA0
  have hw : (DataW.weightsEach Tryd.prog Tryd.f18.params.toList ds).all (· ≤ reachBytes) = true := hw0
  rw [Tryd.params18] at hA hval hw
  clear hA0 hw0 hval0
  obtain ⟨v0, vs0, d0, ds0, p0, q0, hargs, rfl, rfl, h0, r0⟩ := trodAll_cons hA
  obtain ⟨v1, vs1, d1, ds1, p1, q1, rfl, rfl, rfl, h1, r1⟩ := trodAll_cons r0
  obtain ⟨v2, vs2, d2, ds2, p2, q2, rfl, rfl, rfl, h2, r2⟩ := trodAll_cons r1
  obtain ⟨rfl, rfl, rfl⟩ := trodAll_nil r2
  obtain rfl : args = #[v0, v1, v2] := by cases args; simp_all
  simp only [DataW.weightsEach, all_append_iff] at hw
  obtain ⟨hw0, hw1, hw2, _⟩ := hw
  obtain ⟨fuel0, hf0⟩ := h0
  obtain ⟨x0, hK0, wf0_⟩ := opn65 hf0 hw0
  -- STRUCT 0
  obtain ⟨A0_1, c0_1, A0_2, c0_2, A0_3, c0_3, A0_4, c0_4, he0, hl0_1, hC0_1, hl0_2, hC0_2, hl0_3, hC0_3, hl0_4, hC0_4⟩ := k65_open hK0
  obtain rfl : v0 = .agg #[.string x0.f0, .slice A0_1 x0.f1.length c0_1, .slice A0_2 x0.f2.length c0_2, .slice A0_3 x0.f3.length c0_3, .slice A0_4 x0.f4.length c0_4] := agg_of_cells he0 (by simp)
  obtain ⟨a1, len1, cap1, rfl⟩ := arg_slice (j := 1) @hval rfl rfl Tryd.underlying22
  obtain ⟨fuel1, hf1⟩ := h1
  obtain ⟨l1, ⟨A1, c1, he1, hl1, hC1⟩, wf1_⟩ := (Opn.slice Tryd.underlying22 opn50 (by kernel_rfl) (by kernel_rfl)) hf1 hw1
  simp [Value.cells] at he1
  obtain ⟨rfl, rfl, rfl⟩ := he1
  obtain ⟨a2, rfl, rfl, rfl, y2⟩ := arg_string (j := 2) @hval rfl rfl Tryd.underlying9 h2
  have wf2_ : a2.size ≤ 140737488351232 := by
    simp only [DataW.weights, List.all_cons, List.all_nil, Bool.and_true, decide_eq_true_eq, Array.length_toList] at hw2
    unfold reachBytes at hw2
    exact hw2
  obtain ⟨k, h⟩ := RowOwn x0 l1 a2 wf0_ wf1_ wf2_
  refine (vellumlaw04_RowOwn.calls k x0.f0 _ _ x0.f1 _ _ x0.f2 _ _ x0.f3 _ _ x0.f4 _ _ l1 a2 true W hC0_1 hl0_1 hC0_2 hl0_2 hC0_3 hl0_3 hC0_4 hl0_4 hC1 hl1 hG h).mono ?_
  rintro e W' ⟨rfl, hd⟩
  exact ⟨rfl, hd⟩
theorem witness_row (os : Os) {H : Type} (enc : TypeId × Value → H) :
    (OpenSpec.ofChange Rows.rowOwnSpec).preRow enc Tryd.prog Tryd.f18 [] false laidList ((laidWorld os).forCall (fun _ _ => 0) ⟨#[], #[.agg #[.string ByteArray.empty, .slice none 0 0, .slice none 0 0, .slice none 0 0, .slice none 0 0], .slice none 0 0, .string ByteArray.empty], []⟩).memory #[.agg #[.string ByteArray.empty, .slice none 0 0, .slice none 0 0, .slice none 0 0, .slice none 0 0], .slice none 0 0, .string ByteArray.empty] := by
  have hw : (DataW.whole enc Tryd.prog ((laidWorld os).forCall (fun _ _ => 0) ⟨#[], #[.agg #[.string ByteArray.empty, .slice none 0 0, .slice none 0 0, .slice none 0 0, .slice none 0 0], .slice none 0 0, .string ByteArray.empty], []⟩).memory Tryd.f18.params.toList (OpenSpec.ofChange Rows.rowOwnSpec).vars false (#[.agg #[.string ByteArray.empty, .slice none 0 0, .slice none 0 0, .slice none 0 0, .slice none 0 0], .slice none 0 0, .string ByteArray.empty] : Array Value).toList 8).map (fun x => (x.1, x.2.1)) = some ([.agg [.lit (.string []), .nil, .nil, .nil, .nil], .nil, .lit (.string [])], []) := by kernel_rfl
  obtain ⟨⟨x1, x2, x3⟩, hx, hx1⟩ := Option.map_eq_some_iff.1 hw
  simp only [Prod.mk.injEq] at hx1
  obtain ⟨rfl, rfl⟩ := hx1
  exact OpenSpec.preRow_of_cond 8 hx (by kernel_rfl) (fun k hk => by cases hk) (by kernel_rfl) (laid_met os _)
theorem ends {os : Os} (started : os.Started) {H : Type} {enc : TypeId × Value → H} {F : Stop.Interp} : ReturnsInHanded { modest := false } Tryd.checked os 18 .any ((OpenSpec.ofChange Rows.rowOwnSpec).preRow enc Tryd.prog Tryd.f18 [] false laidList) (((OpenSpec.ofChange Rows.rowOwnSpec).at F).post enc Tryd.prog Tryd.f18 false true false false) :=
  law_lifted (spec := Rows.rowOwnSpec) Tryd.func18 (by kernel_rfl) (tb := 4) rfl Tryd.underlying4 (by kernel_rfl) rfl
    (fun H ds hl => by
      match ds, hl with
      | [_, _, _], _ => rfl) started
    (witness_row_atRef (enc := enc) (C := Tryd.checked) false (laidWorld os) #[.agg #[.string ByteArray.empty, .slice none 0 0, .slice none 0 0, .slice none 0 0, .slice none 0 0], .slice none 0 0, .string ByteArray.empty] rfl (by kernel_rfl) (by kernel_rfl) (by kernel_rfl) (witness_row os enc))
    (fun W base args ds ps hA hw hval hG => walk W base args ds ps hA hw @hval hG)
theorem inPlace_ : Tryd.prog.inPlace 18 = Rows.rowOwnRow.inPlace := by kernel_rfl
theorem unfollowed_ : Tryd.prog.unfollowed 18 = Rows.rowOwnRow.unfollowed := by kernel_rfl
theorem recurses_ : Tryd.prog.recurses 18 = Rows.rowOwnRow.recurses := by kernel_rfl
theorem named_ : Tryd.prog.varsNamed 18 = Rows.rowOwnRow.named := by kernel_rfl
theorem closed : joinedFacts Tryd.prog 18 Tryd.f18 (OpenSpec.ofChange Rows.rowOwnSpec).bare Rows.rowOwnRow = true := by
  unfold joinedFacts
  rw [laidOut, mapsRowed_, stops_, stopKnobs_, plainKeys_, stopsHeard_, mayEnter_, lifts_, make_, inPlace_, unfollowed_, recurses_, named_]
  kernel_rfl
set_option maxRecDepth 100000 in
theorem over : Rows.rowOwnRow.holds Tryd.pinned (OpenSpec.ofChange Rows.rowOwnSpec) :=
  OpenClaim.holds_of_cond 18 Tryd.f18 rfl rfl rfl rfl rfl rfl rfl ⟨rfl, rfl, rfl, rfl, rfl⟩ rfl rfl rfl rfl rfl (by kernel_rfl) Tryd.func18 closed
    (of_decide_eq_true (by kernel_rfl)) (by unfold Func.isWrapper; rw [if_neg (of_decide_eq_false (by kernel_rfl))]; exact ⟨rfl, rfl⟩)
    (fun os started H enc _ F => by
      rw [OpenClaim.pre_eq_preRow]
      exact ends started)
theorem goes_ : false = Rows.rowOwnRow.goesBy Tryd.prog := by kernel_rfl
theorem fnamed_ : Tryd.prog.funcNamed "vellum/vellumlaw04.RowOwn" = some 18 := by kernel_rfl
theorem card : Rows.RowOwnCardSaid :=
  Claim7.holds_tied_plain_at .later [] [.data, .pinned] true (true, "409e20a6319c123f59629b35fea50f486835097bfbed967dc062cdc0fc9eff79") false
    over (fun _ h => by cases h) (by kernel_rfl) (fun _ h => by cases h) rowOwn_row_tie rfl ⟨rfl, rfl⟩ main_ rfl
    (fun f fn hf hfn => by
      obtain rfl : f = 18 := Option.some.inj (fnamed_.symm.trans hf) |>.symm
      obtain rfl : fn = Tryd.f18 := (Option.some.inj (Tryd.func18.symm.trans hfn)).symm
      exact ⟨looks_, fun j t ht => by
        rw [Tryd.params18] at ht
        have h3 : t ∈ [65, 22, 9] := by
          have := List.mem_of_getElem? (l := [65, 22, 9]) (i := j) (by simpa using ht)
          exact this
        have h4 : ∀ t ∈ [65, 22, 9], Tryd.prog.wantsStandIn t = false := by
          intro t ht
          simp only [List.mem_cons, List.mem_nil_iff, or_false] at ht
          rcases ht with rfl | rfl | rfl
          all_goals kernel_rfl
        exact h4 t h3⟩)
    goes_
end Go.Proofs.YtpiifdbicibelaaDoor.rowOwn
namespace Go.Proofs.YtpiifdbicibelaaDoor
theorem rowOwn_holds : Rows.RowOwnCardSaid := rowOwn.card
end Go.Proofs.YtpiifdbicibelaaDoor
end
