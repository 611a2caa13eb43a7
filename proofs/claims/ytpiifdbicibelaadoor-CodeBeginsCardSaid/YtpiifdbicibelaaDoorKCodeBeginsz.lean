/- CodeBegins: the law returns true at every input, and its arguments read as before. Conditions: as the row has them (the listed tables as the program's text lays them). -/
import Derived.Test.YtpiifdbicibelaaDoorKCodeBegins2
section
namespace Go.Proofs.YtpiifdbicibelaaDoor.PA
open Go.RowKit Go.Proofs.YtpiifdbicibelaaDoorW.PrintWords Go.Proofs.YtpiifdbicibelaaDoorW.PrintLast Go.Proofs.YtpiifdbicibelaaDoorW.PrintMore
set_option linter.unusedVariables false
set_option linter.unusedSimpArgs false
set_option maxHeartbeats 8000000 in
set_option maxRecDepth 100000 in
theorem vellumlaw02_CodeBegins.calls (k : Nat) (A0 : Option Addr) (c0 : Nat) (l0 : List (S50)) (A1 : Option Addr) (c1 : Nat) (l1 : List (S50)) (a2 : Bool) (r : Bool) (w : World) (hr0 : Kd.C k50 w A0 l0.length l0) (hc0 : l0.length ≤ c0) (hr1 : Kd.C k50 w A1 l1.length l1) (hc1 : l1.length ≤ c1) (hG : Glob w) (h : vellumlaw02_CodeBegins.f k l0 l1 a2 = some r) :
    Calls Tryd.prog 7 #[.slice A0 l0.length c0, .slice A1 l1.length c1, .bool a2] w fun e w' => e = .returned (.bool r) ∧ Below w.heap.size w w' := by
  have hu32 := Tryd.underlying32
  have HR0 := Aside0.mk hr0
  have HC0 := Aside0.mk hc0
  clear hr0 hc0
  have HR1 := Aside0.mk hr1
  have HC1 := Aside0.mk hc1
  clear hr1 hc1
  have HG := Aside0.mk hG
  clear hG
  have HB := Aside0.mk (Below.refl w.heap.size w)
  have H : ((code_Encode.f k l1).bind fun bt414 => ((code_Begins.f k l0).bind fun bt416 => (if bt414.2 = 0 then (vellumlaw02_CodeBegins.j0 k l0 l1 a2 bt414.1 (bt416.2.2.2 != 0) bt416.1 bt416.2.1 bt416.2.2.1) else (vellumlaw02_CodeBegins.j0 k l0 l1 a2 bt414.1 true bt416.1 bt416.2.1 bt416.2.2.1)))) = some r := h
  clear h
  replace H := Option.bind_eq_some_iff.mp H
  obtain ⟨⟨t414, t415⟩, A40, H⟩ := H
  replace H : ((code_Begins.f k l0).bind fun bt416 => (if t415 = 0 then (vellumlaw02_CodeBegins.j0 k l0 l1 a2 t414 (bt416.2.2.2 != 0) bt416.1 bt416.2.1 bt416.2.2.1) else (vellumlaw02_CodeBegins.j0 k l0 l1 a2 t414 true bt416.1 bt416.2.1 bt416.2.2.1))) = some r := H
  have A4 := Aside0.mk A40
  clear A40
  replace H := Option.bind_eq_some_iff.mp H
  obtain ⟨⟨t416, t417, t418, t419⟩, A50, H⟩ := H
  replace H : (if t415 = 0 then (vellumlaw02_CodeBegins.j0 k l0 l1 a2 t414 (t419 != 0) t416 t417 t418) else (vellumlaw02_CodeBegins.j0 k l0 l1 a2 t414 true t416 t417 t418)) = some r := H
  have A5 := Aside0.mk A50
  clear A50
  have HC6 := Aside0.mk H
  clear H
  go_enter Tryd.func7, Tryd.ntmps7
  go_upto_region 3 with (first | ((with_reducible refine gate_callee (f := 21) rfl ?_); refine goesL_ (some 17) rfl rfl Tryd.func21 (by kernel_rfl) rfl #[.slice A1 l1.length c1] rfl (by (try simp only [List.map_toArray, List.map_cons, List.map_nil]); first | done | rfl | (simp only [List.length_drop, List.length_take]; rfl)) ?_; (with_reducible refine (code_Encode.calls k _ _ l1 t414 t415 _ ?side1 ?side2 ?side3 A4.out).mono ?_); (case side1 => repeat (first | exact HR1.out | (with_reducible refine Kd.C_alloc ?_ _) | (with_reducible refine Kd.C_drewN ?_ _) | (with_reducible refine Kd.C_drew ?_))); (case side2 => exact HC1.out); (case side3 => exact Glob.below HG.out (by repeat (first | (with_reducible first | exact HB.out | apply below_alloc | apply pw_below_drewN | apply below_drew1) | exact HB.out))); rintro e w7 ⟨rfl, hb⟩; refine ⟨_, rfl, ?_⟩; have n0_ := Aside0.mk (below_step (by repeat (first | (with_reducible first | exact HB.out | apply below_alloc | apply pw_below_drewN | apply below_drew1) | exact HB.out)) hb); clear HB; have HB := n0_; clear n0_; (try clear hb); (try clear hb2); (try clear hk); (try clear hi)) | ((with_reducible refine gate_callee (f := 36) rfl ?_); refine goesL_ (some 22) rfl rfl Tryd.func36 (by kernel_rfl) rfl #[.slice A0 l0.length c0] rfl (by (try simp only [List.map_toArray, List.map_cons, List.map_nil]); first | done | rfl | (simp only [List.length_drop, List.length_take]; rfl)) ?_; (with_reducible refine (code_Begins.calls k _ _ l0 t416 t417 t418 t419 _ ?side1 ?side2 ?side3 A5.out).mono ?_); (case side1 => repeat (first | exact (Kd.C_below HR0.out HB.out) | (with_reducible refine Kd.C_alloc ?_ _) | (with_reducible refine Kd.C_drewN ?_ _) | (with_reducible refine Kd.C_drew ?_))); (case side2 => exact HC0.out); (case side3 => exact Glob.below HG.out (by repeat (first | (with_reducible first | exact HB.out | apply below_alloc | apply pw_below_drewN | apply below_drew1) | exact HB.out))); rintro e w8 ⟨rfl, hb⟩; refine ⟨_, rfl, ?_⟩; have n0_ := Aside0.mk (below_step (by repeat (first | (with_reducible first | exact HB.out | apply below_alloc | apply pw_below_drewN | apply below_drew1) | exact HB.out)) hb); clear HB; have HB := n0_; clear n0_; (try clear hb); (try clear hb2); (try clear hk); (try clear hi)) | ((with_reducible refine gate_dst (N := 9) rfl ?_); refine box_event ?hg (N := 9) ?hd (cs := #[.string (⟨#[]⟩ : ByteArray), .string (⟨#[]⟩ : ByteArray), .bool false]) (t := 32) ?hr ?_; (case hd => rfl); (case hg => rfl); (case hr => first | (go_simp; done) | (go_simp; rfl)); intro gb420 hg w9 hbox hb; have n0_ := Aside0.mk (below_step (by repeat (first | (with_reducible first | exact HB.out | apply below_alloc | apply pw_below_drewN | apply below_drew1) | exact HB.out)) hb); have n1_ := Aside0.mk (hbox); have n2_ := Aside0.mk ((by rw [hg]; exact (below_size (by repeat (first | (with_reducible first | exact HB.out | apply below_alloc | apply pw_below_drewN | apply below_drew1) | exact HB.out))) : w.heap.size ≤ gb420)); have n3_ := Aside0.mk ((by rw [hg]; exact (below_size (by repeat (first | (with_reducible first | exact HB.out | apply below_alloc | apply pw_below_drewN | apply below_drew1) | exact HB.out))) : w.heap.size ≤ gb420)); clear HB; have HB := n0_; have BK420 := n1_; have GW420 := n2_; have GE420 := n3_; clear n0_ n1_ n2_ n3_; clear hb hbox hg; have hcz10_0 : w9.cell? ⟨gb420, 0, none⟩ = some (.string (⟨#[]⟩ : ByteArray)) := (blk_cell BK420.out 0).trans rfl; have hcz10_1 : w9.cell? ⟨gb420, 1, none⟩ = some (.string (⟨#[]⟩ : ByteArray)) := (blk_cell BK420.out 1).trans rfl; have hcz10_2 : w9.cell? ⟨gb420, 2, none⟩ = some (.bool false) := (blk_cell BK420.out 2).trans rfl; have hfz10_0 := blk_frozen BK420.out 0; have hfz10_1 := blk_frozen BK420.out 1; have hfz10_2 := blk_frozen BK420.out 2))
  (try simp only [Act.put, List.setIfInBounds_toArray, List.set_cons_zero, List.set_cons_succ])
  go_cut [30] (fun v30 wc => ∃ (kq : Nat) (x30_5 : Bool), v30 = .bool x30_5 ∧ Aside0 (vellumlaw02_CodeBegins.j0 kq l0 l1 a2 t414 x30_5 t416 t417 t418 = some r) ∧ Aside0 (kq ≤ k) ∧ Aside0 (wc.heap[gb420]? = some (.cells #[.string t416, .string t417, .bool t418] 32 (0, 0))) ∧ Aside0 (Below w.heap.size w wc))
  case first =>
    have H := HC6.out
    clear HC6
    by_cases c11 : t415 = 0
    · rw [if_pos c11] at H
      have c11b0 : (t415 == 0) = true := beq_iff_eq.mpr c11
      have c11b1 : (t415 != 0) = false := bne_eq_false_iff_eq.mpr c11
      clear c11
      (first | rw [c11b0] | (simp only [i64_w, i32_w]; rw [c11b0]) | skip)
      have H' := Aside0.mk H
      clear H
      go_wp2
      go_meet
      case rel => exact ⟨_, ((t419 != 0)), (by first | rfl | (simp; done) | (simp [*]; done) | (simp [bool_ne_nil]; done) | (simp; exact bool_ne_nil _)), H', ⟨by first | omega | exact Nat.le_refl _⟩, ⟨by (with_reducible repeat (first | refine blk_drewN ?_ _ | refine blk_drew ?_ | refine blk_alloc ?_ _)); refine blk_put (cs := #[.string t416, .string t417, .bool false]) ?_ 2 _ rfl; (with_reducible repeat (first | refine blk_drewN ?_ _ | refine blk_drew ?_ | refine blk_alloc ?_ _)); refine blk_put (cs := #[.string t416, .string (⟨#[]⟩ : ByteArray), .bool false]) ?_ 1 _ rfl; (with_reducible repeat (first | refine blk_drewN ?_ _ | refine blk_drew ?_ | refine blk_alloc ?_ _)); refine blk_put (cs := #[.string (⟨#[]⟩ : ByteArray), .string (⟨#[]⟩ : ByteArray), .bool false]) ?_ 0 _ rfl; (with_reducible repeat (first | refine blk_drewN ?_ _ | refine blk_drew ?_ | refine blk_alloc ?_ _)); exact BK420.out⟩, ⟨by repeat (first | (with_reducible first | exact HB.out | apply below_alloc | apply pw_below_drewN | apply below_drew1 | refine below_set ?_ GE420.out) | exact HB.out)⟩⟩
    · rw [if_neg c11] at H
      have c11b0 : (t415 == 0) = false := beq_eq_false_iff_ne.mpr c11
      have c11b1 : (t415 != 0) = true := bne_iff_ne.mpr c11
      (first | rw [c11b0] | (simp only [i64_w, i32_w]; rw [c11b0]) | skip)
      have H' := Aside0.mk H
      clear H
      go_wp2
      go_meet
      case rel => exact ⟨_, (true), (by first | rfl | (simp; done) | (simp [*]; done) | (simp [bool_ne_nil]; done) | (simp; exact bool_ne_nil _)), H', ⟨by first | omega | exact Nat.le_refl _⟩, ⟨by (with_reducible repeat (first | refine blk_drewN ?_ _ | refine blk_drew ?_ | refine blk_alloc ?_ _)); refine blk_put (cs := #[.string t416, .string t417, .bool false]) ?_ 2 _ rfl; (with_reducible repeat (first | refine blk_drewN ?_ _ | refine blk_drew ?_ | refine blk_alloc ?_ _)); refine blk_put (cs := #[.string t416, .string (⟨#[]⟩ : ByteArray), .bool false]) ?_ 1 _ rfl; (with_reducible repeat (first | refine blk_drewN ?_ _ | refine blk_drew ?_ | refine blk_alloc ?_ _)); refine blk_put (cs := #[.string (⟨#[]⟩ : ByteArray), .string (⟨#[]⟩ : ByteArray), .bool false]) ?_ 0 _ rfl; (with_reducible repeat (first | refine blk_drewN ?_ _ | refine blk_drew ?_ | refine blk_alloc ?_ _)); exact BK420.out⟩, ⟨by repeat (first | (with_reducible first | exact HB.out | apply below_alloc | apply pw_below_drewN | apply below_drew1 | refine below_set ?_ GE420.out) | exact HB.out)⟩⟩
  case rest =>
    clear HC6
    try clear c1
    try clear c2
    try clear p2
    try clear c3
    try clear c7
    try clear c11
    try clear c11b0
    try clear c11b1
    try clear hcz10_0
    try clear hcz10_1
    try clear hcz10_2
    try clear hfz10_0
    try clear hfz10_1
    try clear hfz10_2
    obtain ⟨kq, x30_5, rfl, HA, HJ5, BK420, HB⟩ := hcut
    cases kq with
    | zero => exact absurd HA.out (by simp [vellumlaw02_CodeBegins.j0])
    | succ kj5 =>
      have H := HA.out
      clear HA
      simp only [vellumlaw02_CodeBegins.j0] at H
      by_cases c12 : x30_5 = true
      · subst c12
        have H1 : ((vellumlaw02_awake.f kj5).bind fun t421 => (some t421)) = some r := by rw [if_pos rfl] at H; exact H
        clear H
        have H := H1
        clear H1
        replace H := Option.bind_eq_some_iff.mp H
        obtain ⟨t421, A130, H⟩ := H
        replace H : (some t421) = some r := H
        have A13 := Aside0.mk A130
        clear A130
        obtain rfl := Option.some.inj H
        go_wp2_with (first | ((with_reducible refine gate_callee (f := 23) rfl ?_); refine goesL_ (some 31) rfl rfl Tryd.func23 (by kernel_rfl) rfl #[] rfl (by (try simp only [List.map_toArray, List.map_cons, List.map_nil]); first | done | rfl | (simp only [List.length_drop, List.length_take]; rfl)) ?_; (with_reducible refine (vellumlaw02_awake.calls kj5  t421 _ ?side1 A13.out).mono ?_); (case side1 => exact Glob.below HG.out (by repeat (first | (with_reducible first | exact HB.out | apply below_alloc | apply pw_below_drewN | apply below_drew1 | refine below_set ?_ GE420.out) | exact HB.out))); rintro e w14 ⟨rfl, hb⟩; refine ⟨_, rfl, ?_⟩; have n0_ := Aside0.mk (blk_below (g := gb420) (o := .cells #[.string t416, .string t417, .bool t418] 32 (0, 0)) (by (with_reducible repeat (first | refine blk_drewN ?_ _ | refine blk_drew ?_ | refine blk_alloc ?_ _)); exact BK420.out) hb); have n1_ := Aside0.mk (below_step (by repeat (first | (with_reducible first | exact HB.out | apply below_alloc | apply pw_below_drewN | apply below_drew1 | refine below_set ?_ GE420.out) | exact HB.out)) hb); clear BK420; clear HB; have BK420 := n0_; have HB := n1_; clear n0_ n1_; (try clear hb); (try clear hb2); (try clear hk); (try clear hi)))
        go_ret
        exact ⟨by first | rfl | (simp [errW_none, errW_some] <;> rfl) | (simp [*, errW_none, errW_some] <;> rfl), by repeat (first | (with_reducible first | exact HB.out | apply below_alloc | apply pw_below_drewN | apply below_drew1 | refine below_set ?_ GE420.out) | exact HB.out)⟩
      · replace c12 := Bool.eq_false_iff.mpr c12
        subst c12
        have H1 : ((code_From.f kj5 l0 a2).bind fun bt422 => ((code_To.f kj5 l0 (!a2)).bind fun bt427 => (if bt422.2.2.2 = 0 then (if bt427.2.2.2 = 0 then ((code_Has.f bt422.1 bt422.2.1 bt422.2.2.1 t414).bind fun t432 => ((code_Has.f bt427.1 bt427.2.1 bt427.2.2.1 t414).bind fun t433 => (vellumlaw02_CodeBegins.j1 kj5 l0 l1 a2 t414 (t432 == t433) t416 t417 t418 bt422.1 bt422.2.1 bt422.2.2.1))) else (vellumlaw02_CodeBegins.j1 kj5 l0 l1 a2 t414 true t416 t417 t418 bt422.1 bt422.2.1 bt422.2.2.1)) else (vellumlaw02_CodeBegins.j1 kj5 l0 l1 a2 t414 true t416 t417 t418 bt422.1 bt422.2.1 bt422.2.2.1)))) = some r := by rw [if_neg (show ¬ (false = true) by decide)] at H; exact H
        clear H
        have H := H1
        clear H1
        replace H := Option.bind_eq_some_iff.mp H
        obtain ⟨⟨t422, t423, t424, t425⟩, A150, H⟩ := H
        replace H : ((code_To.f kj5 l0 (!a2)).bind fun bt427 => (if t425 = 0 then (if bt427.2.2.2 = 0 then ((code_Has.f t422 t423 t424 t414).bind fun t432 => ((code_Has.f bt427.1 bt427.2.1 bt427.2.2.1 t414).bind fun t433 => (vellumlaw02_CodeBegins.j1 kj5 l0 l1 a2 t414 (t432 == t433) t416 t417 t418 t422 t423 t424))) else (vellumlaw02_CodeBegins.j1 kj5 l0 l1 a2 t414 true t416 t417 t418 t422 t423 t424)) else (vellumlaw02_CodeBegins.j1 kj5 l0 l1 a2 t414 true t416 t417 t418 t422 t423 t424))) = some r := H
        have A15 := Aside0.mk A150
        clear A150
        replace H := Option.bind_eq_some_iff.mp H
        obtain ⟨⟨t427, t428, t429, t430⟩, A160, H⟩ := H
        replace H : (if t425 = 0 then (if t430 = 0 then ((code_Has.f t422 t423 t424 t414).bind fun t432 => ((code_Has.f t427 t428 t429 t414).bind fun t433 => (vellumlaw02_CodeBegins.j1 kj5 l0 l1 a2 t414 (t432 == t433) t416 t417 t418 t422 t423 t424))) else (vellumlaw02_CodeBegins.j1 kj5 l0 l1 a2 t414 true t416 t417 t418 t422 t423 t424)) else (vellumlaw02_CodeBegins.j1 kj5 l0 l1 a2 t414 true t416 t417 t418 t422 t423 t424)) = some r := H
        have A16 := Aside0.mk A160
        clear A160
        have HC17 := Aside0.mk H
        clear H
        go_upto_region 7 with (first | ((with_reducible refine gate_callee (f := 38) rfl ?_); refine goesL_ (some 35) rfl rfl Tryd.func38 (by kernel_rfl) rfl #[.slice A0 l0.length c0, .bool a2] rfl (by (try simp only [List.map_toArray, List.map_cons, List.map_nil]); first | done | rfl | (simp only [List.length_drop, List.length_take]; rfl)) ?_; (with_reducible refine (code_From.calls kj5 _ _ l0 a2 t422 t423 t424 t425 _ ?side1 ?side2 ?side3 A15.out).mono ?_); (case side1 => repeat (first | exact (Kd.C_below HR0.out HB.out) | (with_reducible refine Kd.C_alloc ?_ _) | (with_reducible refine Kd.C_drewN ?_ _) | (with_reducible refine Kd.C_drew ?_))); (case side2 => exact HC0.out); (case side3 => exact Glob.below HG.out (by repeat (first | (with_reducible first | exact HB.out | apply below_alloc | apply pw_below_drewN | apply below_drew1 | refine below_set ?_ GE420.out) | exact HB.out))); rintro e w18 ⟨rfl, hb⟩; refine ⟨_, rfl, ?_⟩; have n0_ := Aside0.mk (blk_below (g := gb420) (o := .cells #[.string t416, .string t417, .bool t418] 32 (0, 0)) (by (with_reducible repeat (first | refine blk_drewN ?_ _ | refine blk_drew ?_ | refine blk_alloc ?_ _)); exact BK420.out) hb); have n1_ := Aside0.mk (below_step (by repeat (first | (with_reducible first | exact HB.out | apply below_alloc | apply pw_below_drewN | apply below_drew1 | refine below_set ?_ GE420.out) | exact HB.out)) hb); clear BK420; clear HB; have BK420 := n0_; have HB := n1_; clear n0_ n1_; (try clear hb); (try clear hb2); (try clear hk); (try clear hi)) | ((with_reducible refine gate_dst (N := 11) rfl ?_); refine box_event ?hg (N := 11) ?hd (cs := #[.string (⟨#[]⟩ : ByteArray), .string (⟨#[]⟩ : ByteArray), .bool false]) (t := 32) ?hr ?_; (case hd => rfl); (case hg => rfl); (case hr => first | (go_simp; done) | (go_simp; rfl)); intro gb426 hg w19 hbox hb; have n0_ := Aside0.mk (blk_below (g := gb420) (o := .cells #[.string t416, .string t417, .bool t418] 32 (0, 0)) (by (with_reducible repeat (first | refine blk_drewN ?_ _ | refine blk_drew ?_ | refine blk_alloc ?_ _)); exact BK420.out) hb); have n1_ := Aside0.mk (below_step (by repeat (first | (with_reducible first | exact HB.out | apply below_alloc | apply pw_below_drewN | apply below_drew1 | refine below_set ?_ GE420.out) | exact HB.out)) hb); have n2_ := Aside0.mk (hbox); have n3_ := Aside0.mk ((by rw [hg]; exact (below_size (by repeat (first | (with_reducible first | exact HB.out | apply below_alloc | apply pw_below_drewN | apply below_drew1 | refine below_set ?_ GE420.out) | exact HB.out))) : w.heap.size ≤ gb426)); have n4_ := Aside0.mk ((by rw [hg]; exact (below_size (by repeat (first | (with_reducible first | exact HB.out | apply below_alloc | apply pw_below_drewN | apply below_drew1 | refine below_set ?_ GE420.out) | exact HB.out))) : w.heap.size ≤ gb426)); have n5_ := Aside0.mk ((by rw [hg]; exact Nat.ne_of_lt (blk_lt (g := gb420) (o := .cells #[.string t416, .string t417, .bool t418] 32 (0, 0)) (by (with_reducible repeat (first | refine blk_drewN ?_ _ | refine blk_drew ?_ | refine blk_alloc ?_ _)); exact BK420.out)) : gb420 ≠ gb426)); have n6_ := Aside0.mk ((by rw [hg]; exact Nat.ne_of_gt (blk_lt (g := gb420) (o := .cells #[.string t416, .string t417, .bool t418] 32 (0, 0)) (by (with_reducible repeat (first | refine blk_drewN ?_ _ | refine blk_drew ?_ | refine blk_alloc ?_ _)); exact BK420.out)) : gb426 ≠ gb420)); clear BK420; clear HB; have BK420 := n0_; have HB := n1_; have BK426 := n2_; have GW426 := n3_; have GE426 := n4_; have NB420_426 := n5_; have NB426_420 := n6_; clear n0_ n1_ n2_ n3_ n4_ n5_ n6_; clear hb hbox hg; have hnb20 := NB426_420.out; have hnc20 := NB420_426.out; have hcz21_0 : w19.cell? ⟨gb426, 0, none⟩ = some (.string (⟨#[]⟩ : ByteArray)) := (blk_cell BK426.out 0).trans rfl; have hcz21_1 : w19.cell? ⟨gb426, 1, none⟩ = some (.string (⟨#[]⟩ : ByteArray)) := (blk_cell BK426.out 1).trans rfl; have hcz21_2 : w19.cell? ⟨gb426, 2, none⟩ = some (.bool false) := (blk_cell BK426.out 2).trans rfl; have hfz21_0 := blk_frozen BK426.out 0; have hfz21_1 := blk_frozen BK426.out 1; have hfz21_2 := blk_frozen BK426.out 2) | ((with_reducible refine gate_callee (f := 40) rfl ?_); refine goesL_ (some 42) rfl rfl Tryd.func40 (by kernel_rfl) rfl #[.slice A0 l0.length c0, .bool (!a2)] rfl (by (try simp only [List.map_toArray, List.map_cons, List.map_nil]); first | done | rfl | (simp only [List.length_drop, List.length_take]; rfl)) ?_; (with_reducible refine (code_To.calls kj5 _ _ l0 (!a2) t427 t428 t429 t430 _ ?side1 ?side2 ?side3 A16.out).mono ?_); (case side1 => exact Kd.C_below HR0.out (by repeat (first | (with_reducible first | exact HB.out | apply below_alloc | apply pw_below_drewN | apply below_drew1 | refine below_set ?_ GE420.out | refine below_set ?_ GE426.out) | exact HB.out))); (case side2 => exact HC0.out); (case side3 => exact Glob.below HG.out (by repeat (first | (with_reducible first | exact HB.out | apply below_alloc | apply pw_below_drewN | apply below_drew1 | refine below_set ?_ GE420.out | refine below_set ?_ GE426.out) | exact HB.out))); rintro e w22 ⟨rfl, hb⟩; refine ⟨_, rfl, ?_⟩; have n0_ := Aside0.mk (blk_below (g := gb420) (o := .cells #[.string t416, .string t417, .bool t418] 32 (0, 0)) (by (with_reducible repeat (first | refine blk_drewN ?_ _ | refine blk_drew ?_ | refine blk_alloc ?_ _)); refine blk_far ?_ NB420_426.out _; (with_reducible repeat (first | refine blk_drewN ?_ _ | refine blk_drew ?_ | refine blk_alloc ?_ _)); refine blk_far ?_ NB420_426.out _; (with_reducible repeat (first | refine blk_drewN ?_ _ | refine blk_drew ?_ | refine blk_alloc ?_ _)); refine blk_far ?_ NB420_426.out _; (with_reducible repeat (first | refine blk_drewN ?_ _ | refine blk_drew ?_ | refine blk_alloc ?_ _)); exact BK420.out) hb); have n1_ := Aside0.mk (blk_below (g := gb426) (o := .cells #[.string t422, .string t423, .bool t424] 32 (0, 0)) (by (with_reducible repeat (first | refine blk_drewN ?_ _ | refine blk_drew ?_ | refine blk_alloc ?_ _)); refine blk_put (cs := #[.string t422, .string t423, .bool false]) ?_ 2 _ rfl; (with_reducible repeat (first | refine blk_drewN ?_ _ | refine blk_drew ?_ | refine blk_alloc ?_ _)); refine blk_put (cs := #[.string t422, .string (⟨#[]⟩ : ByteArray), .bool false]) ?_ 1 _ rfl; (with_reducible repeat (first | refine blk_drewN ?_ _ | refine blk_drew ?_ | refine blk_alloc ?_ _)); refine blk_put (cs := #[.string (⟨#[]⟩ : ByteArray), .string (⟨#[]⟩ : ByteArray), .bool false]) ?_ 0 _ rfl; (with_reducible repeat (first | refine blk_drewN ?_ _ | refine blk_drew ?_ | refine blk_alloc ?_ _)); exact BK426.out) hb); have n2_ := Aside0.mk (below_step (by repeat (first | (with_reducible first | exact HB.out | apply below_alloc | apply pw_below_drewN | apply below_drew1 | refine below_set ?_ GE420.out | refine below_set ?_ GE426.out) | exact HB.out)) hb); clear BK420; clear BK426; clear HB; have BK420 := n0_; have BK426 := n1_; have HB := n2_; clear n0_ n1_ n2_; (try clear hb); (try clear hb2); (try clear hk); (try clear hi)) | ((with_reducible refine gate_dst (N := 13) rfl ?_); refine box_event ?hg (N := 13) ?hd (cs := #[.string (⟨#[]⟩ : ByteArray), .string (⟨#[]⟩ : ByteArray), .bool false]) (t := 32) ?hr ?_; (case hd => rfl); (case hg => rfl); (case hr => first | (go_simp; done) | (go_simp; rfl)); intro gb431 hg w23 hbox hb; have n0_ := Aside0.mk (blk_below (g := gb420) (o := .cells #[.string t416, .string t417, .bool t418] 32 (0, 0)) (by (with_reducible repeat (first | refine blk_drewN ?_ _ | refine blk_drew ?_ | refine blk_alloc ?_ _)); exact BK420.out) hb); have n1_ := Aside0.mk (blk_below (g := gb426) (o := .cells #[.string t422, .string t423, .bool t424] 32 (0, 0)) (by (with_reducible repeat (first | refine blk_drewN ?_ _ | refine blk_drew ?_ | refine blk_alloc ?_ _)); exact BK426.out) hb); have n2_ := Aside0.mk (below_step (by repeat (first | (with_reducible first | exact HB.out | apply below_alloc | apply pw_below_drewN | apply below_drew1 | refine below_set ?_ GE420.out | refine below_set ?_ GE426.out) | exact HB.out)) hb); have n3_ := Aside0.mk (hbox); have n4_ := Aside0.mk ((by rw [hg]; exact (below_size (by repeat (first | (with_reducible first | exact HB.out | apply below_alloc | apply pw_below_drewN | apply below_drew1 | refine below_set ?_ GE420.out | refine below_set ?_ GE426.out) | exact HB.out))) : w.heap.size ≤ gb431)); have n5_ := Aside0.mk ((by rw [hg]; exact (below_size (by repeat (first | (with_reducible first | exact HB.out | apply below_alloc | apply pw_below_drewN | apply below_drew1 | refine below_set ?_ GE420.out | refine below_set ?_ GE426.out) | exact HB.out))) : w.heap.size ≤ gb431)); have n6_ := Aside0.mk ((by rw [hg]; exact Nat.ne_of_lt (blk_lt (g := gb420) (o := .cells #[.string t416, .string t417, .bool t418] 32 (0, 0)) (by (with_reducible repeat (first | refine blk_drewN ?_ _ | refine blk_drew ?_ | refine blk_alloc ?_ _)); exact BK420.out)) : gb420 ≠ gb431)); have n7_ := Aside0.mk ((by rw [hg]; exact Nat.ne_of_gt (blk_lt (g := gb420) (o := .cells #[.string t416, .string t417, .bool t418] 32 (0, 0)) (by (with_reducible repeat (first | refine blk_drewN ?_ _ | refine blk_drew ?_ | refine blk_alloc ?_ _)); exact BK420.out)) : gb431 ≠ gb420)); have n8_ := Aside0.mk ((by rw [hg]; exact Nat.ne_of_lt (blk_lt (g := gb426) (o := .cells #[.string t422, .string t423, .bool t424] 32 (0, 0)) (by (with_reducible repeat (first | refine blk_drewN ?_ _ | refine blk_drew ?_ | refine blk_alloc ?_ _)); exact BK426.out)) : gb426 ≠ gb431)); have n9_ := Aside0.mk ((by rw [hg]; exact Nat.ne_of_gt (blk_lt (g := gb426) (o := .cells #[.string t422, .string t423, .bool t424] 32 (0, 0)) (by (with_reducible repeat (first | refine blk_drewN ?_ _ | refine blk_drew ?_ | refine blk_alloc ?_ _)); exact BK426.out)) : gb431 ≠ gb426)); clear BK420; clear BK426; clear HB; have BK420 := n0_; have BK426 := n1_; have HB := n2_; have BK431 := n3_; have GW431 := n4_; have GE431 := n5_; have NB420_431 := n6_; have NB431_420 := n7_; have NB426_431 := n8_; have NB431_426 := n9_; clear n0_ n1_ n2_ n3_ n4_ n5_ n6_ n7_ n8_ n9_; clear hb hbox hg; have hnb24 := NB431_420.out; have hnc24 := NB420_431.out; have hnb25 := NB431_426.out; have hnc25 := NB426_431.out; have hcz26_0 : w23.cell? ⟨gb431, 0, none⟩ = some (.string (⟨#[]⟩ : ByteArray)) := (blk_cell BK431.out 0).trans rfl; have hcz26_1 : w23.cell? ⟨gb431, 1, none⟩ = some (.string (⟨#[]⟩ : ByteArray)) := (blk_cell BK431.out 1).trans rfl; have hcz26_2 : w23.cell? ⟨gb431, 2, none⟩ = some (.bool false) := (blk_cell BK431.out 2).trans rfl; have hfz26_0 := blk_frozen BK431.out 0; have hfz26_1 := blk_frozen BK431.out 1; have hfz26_2 := blk_frozen BK431.out 2))
        (try simp only [Act.put, List.setIfInBounds_toArray, List.set_cons_zero, List.set_cons_succ])
        go_cut [59] (fun v59 wc => ∃ (kq : Nat) (x59_16 : Bool), v59 = .bool x59_16 ∧ Aside0 (vellumlaw02_CodeBegins.j1 kq l0 l1 a2 t414 x59_16 t416 t417 t418 t422 t423 t424 = some r) ∧ Aside0 (kq ≤ kj5) ∧ Aside0 (wc.heap[gb420]? = some (.cells #[.string t416, .string t417, .bool t418] 32 (0, 0))) ∧ Aside0 (wc.heap[gb426]? = some (.cells #[.string t422, .string t423, .bool t424] 32 (0, 0))) ∧ Aside0 (wc.heap[gb431]? = some (.cells #[.string t427, .string t428, .bool t429] 32 (0, 0))) ∧ Aside0 (Below w.heap.size w wc))
        case first =>
          have H := HC17.out
          clear HC17
          by_cases c27 : t425 = 0
          · rw [if_pos c27] at H
            have c27b0 : (t425 == 0) = true := beq_iff_eq.mpr c27
            have c27b1 : (t425 != 0) = false := bne_eq_false_iff_eq.mpr c27
            clear c27
            (first | rw [c27b0] | (simp only [i64_w, i32_w]; rw [c27b0]) | skip)
            by_cases c28 : t430 = 0
            · rw [if_pos c28] at H
              have c28b0 : (t430 == 0) = true := beq_iff_eq.mpr c28
              have c28b1 : (t430 != 0) = false := bne_eq_false_iff_eq.mpr c28
              clear c28
              replace H := Option.bind_eq_some_iff.mp H
              obtain ⟨t432, A290, H⟩ := H
              replace H : ((code_Has.f t427 t428 t429 t414).bind fun t433 => (vellumlaw02_CodeBegins.j1 kj5 l0 l1 a2 t414 (t432 == t433) t416 t417 t418 t422 t423 t424)) = some r := H
              have A29 := Aside0.mk A290
              clear A290
              replace H := Option.bind_eq_some_iff.mp H
              obtain ⟨t433, A300, H⟩ := H
              replace H : (vellumlaw02_CodeBegins.j1 kj5 l0 l1 a2 t414 (t432 == t433) t416 t417 t418 t422 t423 t424) = some r := H
              have A30 := Aside0.mk A300
              clear A300
              have H' := Aside0.mk H
              clear H
              try go_wp2
              have n0_ : Aside0 ((((w23.setCell ⟨gb431, 0, none⟩ (.string t427)).setCell ⟨gb431, 1, none⟩ (.string t428)).setCell ⟨gb431, 2, none⟩ (.bool t429)).heap[gb420]? = some (.cells #[.string t416, .string t417, .bool t418] 32 (0, 0))) := ⟨by (with_reducible repeat (first | refine blk_drewN ?_ _ | refine blk_drew ?_ | refine blk_alloc ?_ _)); refine blk_far ?_ NB420_431.out _; (with_reducible repeat (first | refine blk_drewN ?_ _ | refine blk_drew ?_ | refine blk_alloc ?_ _)); refine blk_far ?_ NB420_431.out _; (with_reducible repeat (first | refine blk_drewN ?_ _ | refine blk_drew ?_ | refine blk_alloc ?_ _)); refine blk_far ?_ NB420_431.out _; (with_reducible repeat (first | refine blk_drewN ?_ _ | refine blk_drew ?_ | refine blk_alloc ?_ _)); exact BK420.out⟩
              have n1_ : Aside0 ((((w23.setCell ⟨gb431, 0, none⟩ (.string t427)).setCell ⟨gb431, 1, none⟩ (.string t428)).setCell ⟨gb431, 2, none⟩ (.bool t429)).heap[gb426]? = some (.cells #[.string t422, .string t423, .bool t424] 32 (0, 0))) := ⟨by (with_reducible repeat (first | refine blk_drewN ?_ _ | refine blk_drew ?_ | refine blk_alloc ?_ _)); refine blk_far ?_ NB426_431.out _; (with_reducible repeat (first | refine blk_drewN ?_ _ | refine blk_drew ?_ | refine blk_alloc ?_ _)); refine blk_far ?_ NB426_431.out _; (with_reducible repeat (first | refine blk_drewN ?_ _ | refine blk_drew ?_ | refine blk_alloc ?_ _)); refine blk_far ?_ NB426_431.out _; (with_reducible repeat (first | refine blk_drewN ?_ _ | refine blk_drew ?_ | refine blk_alloc ?_ _)); exact BK426.out⟩
              have n2_ : Aside0 ((((w23.setCell ⟨gb431, 0, none⟩ (.string t427)).setCell ⟨gb431, 1, none⟩ (.string t428)).setCell ⟨gb431, 2, none⟩ (.bool t429)).heap[gb431]? = some (.cells #[.string t427, .string t428, .bool t429] 32 (0, 0))) := ⟨by (with_reducible repeat (first | refine blk_drewN ?_ _ | refine blk_drew ?_ | refine blk_alloc ?_ _)); refine blk_put (cs := #[.string t427, .string t428, .bool false]) ?_ 2 _ rfl; (with_reducible repeat (first | refine blk_drewN ?_ _ | refine blk_drew ?_ | refine blk_alloc ?_ _)); refine blk_put (cs := #[.string t427, .string (⟨#[]⟩ : ByteArray), .bool false]) ?_ 1 _ rfl; (with_reducible repeat (first | refine blk_drewN ?_ _ | refine blk_drew ?_ | refine blk_alloc ?_ _)); refine blk_put (cs := #[.string (⟨#[]⟩ : ByteArray), .string (⟨#[]⟩ : ByteArray), .bool false]) ?_ 0 _ rfl; (with_reducible repeat (first | refine blk_drewN ?_ _ | refine blk_drew ?_ | refine blk_alloc ?_ _)); exact BK431.out⟩
              have n3_ : Aside0 (Below w.heap.size w (((w23.setCell ⟨gb431, 0, none⟩ (.string t427)).setCell ⟨gb431, 1, none⟩ (.string t428)).setCell ⟨gb431, 2, none⟩ (.bool t429))) := ⟨by repeat (first | (with_reducible first | exact HB.out | apply below_alloc | apply pw_below_drewN | apply below_drew1 | refine below_set ?_ GE420.out | refine below_set ?_ GE426.out | refine below_set ?_ GE431.out) | exact HB.out)⟩
              (try clear BK420)
              (try clear BK426)
              (try clear BK431)
              (try clear HB)
              generalize (((w23.setCell ⟨gb431, 0, none⟩ (.string t427)).setCell ⟨gb431, 1, none⟩ (.string t428)).setCell ⟨gb431, 2, none⟩ (.bool t429)) = w31 at n0_ n1_ n2_ n3_ ⊢
              have BK420 := n0_
              have BK426 := n1_
              have BK431 := n2_
              have HB := n3_
              clear n0_ n1_ n2_ n3_
              have n0_ := Aside0.mk (blk_drew BK420.out)
              have n1_ := Aside0.mk (blk_drew BK426.out)
              have n2_ := Aside0.mk (blk_drew BK431.out)
              have n3_ := Aside0.mk (below_drew1 HB.out)
              clear BK420
              clear BK426
              clear BK431
              clear HB
              have BK420 := n0_
              have BK426 := n1_
              have BK431 := n2_
              have HB := n3_
              clear n0_ n1_ n2_ n3_
              refine start_ (n := 15) (S := fun w' => w'.cell? ⟨gb426, 0, none⟩ = some (.string t422) ∧ w'.cell? ⟨gb426, 1, none⟩ = some (.string t423) ∧ w'.cell? ⟨gb426, 2, none⟩ = some (.bool t424) ∧ w'.cell? ⟨gb431, 0, none⟩ = some (.string t427) ∧ w'.cell? ⟨gb431, 1, none⟩ = some (.string t428) ∧ w'.cell? ⟨gb431, 2, none⟩ = some (.bool t429)) (ds := []) #[false, false, false, false, false, false, false, false, false, false, false, false, false, false, false] (by kernel_rfl) rfl rfl ⟨(blk_cell BK426.out 0).trans rfl, (blk_cell BK426.out 1).trans rfl, (blk_cell BK426.out 2).trans rfl, (blk_cell BK431.out 0).trans rfl, (blk_cell BK431.out 1).trans rfl, (blk_cell BK431.out 2).trans rfl⟩ (fun hHeld => ?_); refine with_tabW vellumlaw02_CodeBegins.tab7 vellumlaw02_CodeBegins.bits7 (fun HT_ HW_ => ?_)
              generalize w31.drew = w32 at BK420 BK426 BK431 HB hHeld ⊢
              refine pure_ (i := 0) (N := some 45) (v := ?_) (a' := ?_) #[true, false, false, false, false, false, false, false, false, false, false, false, false, false, false] rfl rfl (any_of HT_.out (by kernel_rfl)) (fun _ _ _ h => h) (Or.inl ⟨by rfl, ?_⟩) ?_ ?_
              rotate_left
              · intro w'
                go_simp
                with_reducible rfl
              rotate_left
              · simp only [Act.put, List.setIfInBounds_toArray, List.set_cons_zero, List.set_cons_succ, i64_w, i32_w]
                rfl
              refine pure_ (i := 1) (N := some 46) (v := ?_) (a' := ?_) #[true, true, false, false, false, false, false, false, false, false, false, false, false, false, false] rfl rfl (any_of HT_.out (by kernel_rfl)) (fun _ _ _ h => h) (Or.inl ⟨by rfl, ?_⟩) ?_ ?_
              rotate_left
              · intro w'
                go_simp
                with_reducible rfl
              rotate_left
              · simp only [Act.put, List.setIfInBounds_toArray, List.set_cons_zero, List.set_cons_succ, i64_w, i32_w]
                rfl
              refine pure_ (i := 2) (N := some 47) (v := ?_) (a' := ?_) #[true, true, true, false, false, false, false, false, false, false, false, false, false, false, false] rfl rfl (any_of HT_.out (by kernel_rfl)) (fun _ _ _ h => h) (Or.inl ⟨by rfl, ?_⟩) ?_ ?_
              rotate_left
              · intro w'
                go_simp
                with_reducible rfl
              rotate_left
              · simp only [Act.put, List.setIfInBounds_toArray, List.set_cons_zero, List.set_cons_succ, i64_w, i32_w]
                rfl
              refine pure_ (i := 3) (N := some 48) (v := ?_) (a' := ?_) #[true, true, true, true, false, false, false, false, false, false, false, false, false, false, false] rfl rfl (any_of HT_.out (by kernel_rfl)) (fun _ _ _ h => h) (Or.inl ⟨by rfl, ?_⟩) ?_ ?_
              rotate_left
              · intro w'
                go_simp
                with_reducible rfl
              rotate_left
              · simp only [Act.put, List.setIfInBounds_toArray, List.set_cons_zero, List.set_cons_succ, i64_w, i32_w]
                rfl
              refine pure_ (i := 4) (N := some 49) (v := ?_) (a' := ?_) #[true, true, true, true, true, false, false, false, false, false, false, false, false, false, false] rfl rfl (any_of HT_.out (by kernel_rfl)) (fun _ _ _ h => h) (Or.inl ⟨by rfl, ?_⟩) ?_ ?_
              rotate_left
              · intro w'
                go_simp
                with_reducible rfl
              rotate_left
              · simp only [Act.put, List.setIfInBounds_toArray, List.set_cons_zero, List.set_cons_succ, i64_w, i32_w]
                rfl
              refine pure_ (i := 5) (N := some 50) (v := ?_) (a' := ?_) #[true, true, true, true, true, true, false, false, false, false, false, false, false, false, false] rfl rfl (any_of HT_.out (by kernel_rfl)) (fun _ _ _ h => h) (Or.inl ⟨by rfl, ?_⟩) ?_ ?_
              rotate_left
              · intro w'
                go_simp
                with_reducible rfl
              rotate_left
              · simp only [Act.put, List.setIfInBounds_toArray, List.set_cons_zero, List.set_cons_succ, i64_w, i32_w]
                rfl
              refine pure_ (i := 6) (N := some 51) (v := ?_) (a' := ?_) #[true, true, true, true, true, true, true, false, false, false, false, false, false, false, false] rfl rfl (any_of HT_.out (by kernel_rfl)) (fun _ _ _ h => h) (Or.inl ⟨by rfl, ?_⟩) ?_ ?_
              rotate_left
              · intro w'
                go_simp
                with_reducible rfl
              rotate_left
              · simp only [Act.put, List.setIfInBounds_toArray, List.set_cons_zero, List.set_cons_succ, i64_w, i32_w]
                rfl
              refine pure_ (i := 8) (N := some 53) (v := ?_) (a' := ?_) #[true, true, true, true, true, true, true, false, true, false, false, false, false, false, false] rfl rfl (any_of HT_.out (by kernel_rfl)) (fun _ _ _ h => h) (Or.inl ⟨by rfl, ?_⟩) ?_ ?_
              rotate_left
              · intro w'
                go_simp
                with_reducible rfl
              rotate_left
              · simp only [Act.put, List.setIfInBounds_toArray, List.set_cons_zero, List.set_cons_succ, i64_w, i32_w]
                rfl
              refine pure_ (i := 11) (N := some 56) (v := ?_) (a' := ?_) #[true, true, true, true, true, true, true, false, true, false, false, true, false, false, false] rfl rfl (any_of HT_.out (by kernel_rfl)) (fun _ _ _ h => h) (Or.inl ⟨by rfl, ?_⟩) ?_ ?_
              rotate_left
              · intro w'
                go_simp
                with_reducible rfl
              rotate_left
              · simp only [Act.put, List.setIfInBounds_toArray, List.set_cons_zero, List.set_cons_succ, i64_w, i32_w]
                rfl
              refine take_ (i := 7) (N := some 52) (v := ?_) (a' := ?_) #[true, true, true, true, true, true, true, true, true, false, false, true, false, false, false] rfl rfl (take_ofW HT_.out HW_.out (by kernel_rfl)) (fun _ _ _ h => h) (Or.inl ⟨by rfl, ?_⟩) hHeld ?_ ?_
              rotate_left
              · rintro w' ⟨s0, s1, s2, s3, s4, s5⟩
                go_simp
                with_reducible rfl
              rotate_left
              · simp only [Act.put, List.setIfInBounds_toArray, List.set_cons_zero, List.set_cons_succ, i64_w, i32_w]
                rfl
              refine take_ (i := 10) (N := some 55) (v := ?_) (a' := ?_) #[true, true, true, true, true, true, true, true, true, false, true, true, false, false, false] rfl rfl (take_ofW HT_.out HW_.out (by kernel_rfl)) (fun _ _ _ h => h) (Or.inl ⟨by rfl, ?_⟩) hHeld ?_ ?_
              rotate_left
              · rintro w' ⟨s0, s1, s2, s3, s4, s5⟩
                go_simp
                with_reducible rfl
              rotate_left
              · simp only [Act.put, List.setIfInBounds_toArray, List.set_cons_zero, List.set_cons_succ, i64_w, i32_w]
                rfl
              refine one_ (i := 9) (N := some 54) #[true, true, true, true, true, true, true, true, true, true, true, true, false, false, false] rfl rfl (one_of HT_.out (by kernel_rfl)) (by decide) (fun K hK => ?_)
              refine goes_ Tryd.func28 (by kernel_rfl) rfl #[.agg #[.string t422, .string t423, .bool t424], .string t414] (by rfl) rfl rfl (by (try simp only [List.map_toArray, List.map_cons, List.map_nil]); first | done | rfl | (simp only [List.length_drop, List.length_take]; rfl)) ?_
              with_reducible refine (code_Has.calls t422 t423 t424 t414 t432 _ A29.out).mono ?_
              rintro e w33 ⟨rfl, hb⟩
              refine ⟨_, rfl, ?_⟩
              have n0_ := Aside0.mk (blk_below (g := gb420) (o := .cells #[.string t416, .string t417, .bool t418] 32 (0, 0)) (by (with_reducible repeat (first | refine blk_drewN ?_ _ | refine blk_drew ?_ | refine blk_alloc ?_ _)); exact BK420.out) hb)
              have n1_ := Aside0.mk (blk_below (g := gb426) (o := .cells #[.string t422, .string t423, .bool t424] 32 (0, 0)) (by (with_reducible repeat (first | refine blk_drewN ?_ _ | refine blk_drew ?_ | refine blk_alloc ?_ _)); exact BK426.out) hb)
              have n2_ := Aside0.mk (blk_below (g := gb431) (o := .cells #[.string t427, .string t428, .bool t429] 32 (0, 0)) (by (with_reducible repeat (first | refine blk_drewN ?_ _ | refine blk_drew ?_ | refine blk_alloc ?_ _)); exact BK431.out) hb)
              have n3_ := Aside0.mk (below_step (by repeat (first | (with_reducible first | exact HB.out | apply below_alloc | apply pw_below_drewN | apply below_drew1 | refine below_set ?_ GE420.out | refine below_set ?_ GE426.out | refine below_set ?_ GE431.out) | exact HB.out)) hb)
              clear BK420
              clear BK426
              clear BK431
              clear HB
              have BK420 := n0_
              have BK426 := n1_
              have BK431 := n2_
              have HB := n3_
              clear n0_ n1_ n2_ n3_
              (try clear hb)
              (try clear hb2)
              (try clear hk)
              (try clear hi)
              refine hK.out _ _ ⟨(blk_cell BK426.out 0).trans rfl, (blk_cell BK426.out 1).trans rfl, (blk_cell BK426.out 2).trans rfl, (blk_cell BK431.out 0).trans rfl, (blk_cell BK431.out 1).trans rfl, (blk_cell BK431.out 2).trans rfl⟩ (fun hHeld => ?_)
              clear hK K
              refine norm_ (a' := ?_) ?_ ?_
              rotate_left
              · show Act.put _ (some 54) _ = _
                simp only [Act.put, List.setIfInBounds_toArray, List.set_cons_zero, List.set_cons_succ, i64_w, i32_w]
                rfl
              refine one_ (i := 12) (N := some 57) #[true, true, true, true, true, true, true, true, true, true, true, true, true, false, false] rfl rfl (one_of HT_.out (by kernel_rfl)) (by decide) (fun K hK => ?_)
              refine goes_ Tryd.func28 (by kernel_rfl) rfl #[.agg #[.string t427, .string t428, .bool t429], .string t414] (by rfl) rfl rfl (by (try simp only [List.map_toArray, List.map_cons, List.map_nil]); first | done | rfl | (simp only [List.length_drop, List.length_take]; rfl)) ?_
              with_reducible refine (code_Has.calls t427 t428 t429 t414 t433 _ A30.out).mono ?_
              rintro e w34 ⟨rfl, hb⟩
              refine ⟨_, rfl, ?_⟩
              have n0_ := Aside0.mk (blk_below (g := gb420) (o := .cells #[.string t416, .string t417, .bool t418] 32 (0, 0)) (by (with_reducible repeat (first | refine blk_drewN ?_ _ | refine blk_drew ?_ | refine blk_alloc ?_ _)); exact BK420.out) hb)
              have n1_ := Aside0.mk (blk_below (g := gb426) (o := .cells #[.string t422, .string t423, .bool t424] 32 (0, 0)) (by (with_reducible repeat (first | refine blk_drewN ?_ _ | refine blk_drew ?_ | refine blk_alloc ?_ _)); exact BK426.out) hb)
              have n2_ := Aside0.mk (blk_below (g := gb431) (o := .cells #[.string t427, .string t428, .bool t429] 32 (0, 0)) (by (with_reducible repeat (first | refine blk_drewN ?_ _ | refine blk_drew ?_ | refine blk_alloc ?_ _)); exact BK431.out) hb)
              have n3_ := Aside0.mk (below_step (by repeat (first | (with_reducible first | exact HB.out | apply below_alloc | apply pw_below_drewN | apply below_drew1 | refine below_set ?_ GE420.out | refine below_set ?_ GE426.out | refine below_set ?_ GE431.out) | exact HB.out)) hb)
              clear BK420
              clear BK426
              clear BK431
              clear HB
              have BK420 := n0_
              have BK426 := n1_
              have BK431 := n2_
              have HB := n3_
              clear n0_ n1_ n2_ n3_
              (try clear hb)
              (try clear hb2)
              (try clear hk)
              (try clear hi)
              refine hK.out _ _ ⟨(blk_cell BK426.out 0).trans rfl, (blk_cell BK426.out 1).trans rfl, (blk_cell BK426.out 2).trans rfl, (blk_cell BK431.out 0).trans rfl, (blk_cell BK431.out 1).trans rfl, (blk_cell BK431.out 2).trans rfl⟩ (fun hHeld => ?_)
              clear hK K
              refine norm_ (a' := ?_) ?_ ?_
              rotate_left
              · show Act.put _ (some 57) _ = _
                simp only [Act.put, List.setIfInBounds_toArray, List.set_cons_zero, List.set_cons_succ, i64_w, i32_w]
                rfl
              refine pure_ (i := 13) (N := some 58) (v := ?_) (a' := ?_) #[true, true, true, true, true, true, true, true, true, true, true, true, true, true, false] rfl rfl (any_of HT_.out (by kernel_rfl)) (fun _ _ _ h => h) (Or.inl ⟨by rfl, ?_⟩) ?_ ?_
              rotate_left
              · intro w'
                go_simp
                with_reducible rfl
              rotate_left
              · simp only [Act.put, List.setIfInBounds_toArray, List.set_cons_zero, List.set_cons_succ, i64_w, i32_w]
                rfl
              refine pure_ (i := 14) (N := some 59) (v := ?_) (a' := ?_) #[true, true, true, true, true, true, true, true, true, true, true, true, true, true, true] rfl rfl (any_of HT_.out (by kernel_rfl)) (fun _ _ _ h => h) (Or.inl ⟨by rfl, ?_⟩) ?_ ?_
              rotate_left
              · intro w'
                go_simp
                with_reducible rfl
              rotate_left
              · simp only [Act.put, List.setIfInBounds_toArray, List.set_cons_zero, List.set_cons_succ, i64_w, i32_w]
                rfl
              refine done_ (done_of HT_.out (by kernel_rfl)) ?_
              try go_wp2
              go_meet
              case rel => exact ⟨_, ((t432 == t433)), (by first | rfl | (simp; done) | (simp [*]; done) | (simp [bool_ne_nil]; done) | (simp; exact bool_ne_nil _)), H', ⟨by have := HJ5.out; first | omega | exact Nat.le_refl _⟩, ⟨by (with_reducible repeat (first | refine blk_drewN ?_ _ | refine blk_drew ?_ | refine blk_alloc ?_ _)); exact BK420.out⟩, ⟨by (with_reducible repeat (first | refine blk_drewN ?_ _ | refine blk_drew ?_ | refine blk_alloc ?_ _)); exact BK426.out⟩, ⟨by (with_reducible repeat (first | refine blk_drewN ?_ _ | refine blk_drew ?_ | refine blk_alloc ?_ _)); exact BK431.out⟩, ⟨by repeat (first | (with_reducible first | exact HB.out | apply below_alloc | apply pw_below_drewN | apply below_drew1 | refine below_set ?_ GE420.out | refine below_set ?_ GE426.out | refine below_set ?_ GE431.out) | exact HB.out)⟩⟩
            · rw [if_neg c28] at H
              have c28b0 : (t430 == 0) = false := beq_eq_false_iff_ne.mpr c28
              have c28b1 : (t430 != 0) = true := bne_iff_ne.mpr c28
              have H' := Aside0.mk H
              clear H
              try go_wp2
              have n0_ : Aside0 ((((w23.setCell ⟨gb431, 0, none⟩ (.string t427)).setCell ⟨gb431, 1, none⟩ (.string t428)).setCell ⟨gb431, 2, none⟩ (.bool t429)).heap[gb420]? = some (.cells #[.string t416, .string t417, .bool t418] 32 (0, 0))) := ⟨by (with_reducible repeat (first | refine blk_drewN ?_ _ | refine blk_drew ?_ | refine blk_alloc ?_ _)); refine blk_far ?_ NB420_431.out _; (with_reducible repeat (first | refine blk_drewN ?_ _ | refine blk_drew ?_ | refine blk_alloc ?_ _)); refine blk_far ?_ NB420_431.out _; (with_reducible repeat (first | refine blk_drewN ?_ _ | refine blk_drew ?_ | refine blk_alloc ?_ _)); refine blk_far ?_ NB420_431.out _; (with_reducible repeat (first | refine blk_drewN ?_ _ | refine blk_drew ?_ | refine blk_alloc ?_ _)); exact BK420.out⟩
              have n1_ : Aside0 ((((w23.setCell ⟨gb431, 0, none⟩ (.string t427)).setCell ⟨gb431, 1, none⟩ (.string t428)).setCell ⟨gb431, 2, none⟩ (.bool t429)).heap[gb426]? = some (.cells #[.string t422, .string t423, .bool t424] 32 (0, 0))) := ⟨by (with_reducible repeat (first | refine blk_drewN ?_ _ | refine blk_drew ?_ | refine blk_alloc ?_ _)); refine blk_far ?_ NB426_431.out _; (with_reducible repeat (first | refine blk_drewN ?_ _ | refine blk_drew ?_ | refine blk_alloc ?_ _)); refine blk_far ?_ NB426_431.out _; (with_reducible repeat (first | refine blk_drewN ?_ _ | refine blk_drew ?_ | refine blk_alloc ?_ _)); refine blk_far ?_ NB426_431.out _; (with_reducible repeat (first | refine blk_drewN ?_ _ | refine blk_drew ?_ | refine blk_alloc ?_ _)); exact BK426.out⟩
              have n2_ : Aside0 ((((w23.setCell ⟨gb431, 0, none⟩ (.string t427)).setCell ⟨gb431, 1, none⟩ (.string t428)).setCell ⟨gb431, 2, none⟩ (.bool t429)).heap[gb431]? = some (.cells #[.string t427, .string t428, .bool t429] 32 (0, 0))) := ⟨by (with_reducible repeat (first | refine blk_drewN ?_ _ | refine blk_drew ?_ | refine blk_alloc ?_ _)); refine blk_put (cs := #[.string t427, .string t428, .bool false]) ?_ 2 _ rfl; (with_reducible repeat (first | refine blk_drewN ?_ _ | refine blk_drew ?_ | refine blk_alloc ?_ _)); refine blk_put (cs := #[.string t427, .string (⟨#[]⟩ : ByteArray), .bool false]) ?_ 1 _ rfl; (with_reducible repeat (first | refine blk_drewN ?_ _ | refine blk_drew ?_ | refine blk_alloc ?_ _)); refine blk_put (cs := #[.string (⟨#[]⟩ : ByteArray), .string (⟨#[]⟩ : ByteArray), .bool false]) ?_ 0 _ rfl; (with_reducible repeat (first | refine blk_drewN ?_ _ | refine blk_drew ?_ | refine blk_alloc ?_ _)); exact BK431.out⟩
              have n3_ : Aside0 (Below w.heap.size w (((w23.setCell ⟨gb431, 0, none⟩ (.string t427)).setCell ⟨gb431, 1, none⟩ (.string t428)).setCell ⟨gb431, 2, none⟩ (.bool t429))) := ⟨by repeat (first | (with_reducible first | exact HB.out | apply below_alloc | apply pw_below_drewN | apply below_drew1 | refine below_set ?_ GE420.out | refine below_set ?_ GE426.out | refine below_set ?_ GE431.out) | exact HB.out)⟩
              (try clear BK420)
              (try clear BK426)
              (try clear BK431)
              (try clear HB)
              generalize (((w23.setCell ⟨gb431, 0, none⟩ (.string t427)).setCell ⟨gb431, 1, none⟩ (.string t428)).setCell ⟨gb431, 2, none⟩ (.bool t429)) = w35 at n0_ n1_ n2_ n3_ ⊢
              have BK420 := n0_
              have BK426 := n1_
              have BK431 := n2_
              have HB := n3_
              clear n0_ n1_ n2_ n3_
              have n0_ := Aside0.mk (blk_drew BK420.out)
              have n1_ := Aside0.mk (blk_drew BK426.out)
              have n2_ := Aside0.mk (blk_drew BK431.out)
              have n3_ := Aside0.mk (below_drew1 HB.out)
              clear BK420
              clear BK426
              clear BK431
              clear HB
              have BK420 := n0_
              have BK426 := n1_
              have BK431 := n2_
              have HB := n3_
              clear n0_ n1_ n2_ n3_
              refine start_ (n := 15) (S := fun w' => True) (ds := []) #[false, false, false, false, false, false, false, false, false, false, false, false, false, false, false] (by kernel_rfl) rfl rfl trivial (fun hHeld => ?_); refine with_tabW vellumlaw02_CodeBegins.tab7 vellumlaw02_CodeBegins.bits7 (fun HT_ HW_ => ?_)
              generalize w35.drew = w36 at BK420 BK426 BK431 HB hHeld ⊢
              refine pure_ (i := 0) (N := some 45) (v := ?_) (a' := ?_) #[true, false, false, false, false, false, false, false, false, false, false, false, false, false, false] rfl rfl (any_of HT_.out (by kernel_rfl)) (fun _ _ _ h => h) (Or.inl ⟨by rfl, ?_⟩) ?_ ?_
              rotate_left
              · intro w'
                go_simp
                with_reducible rfl
              rotate_left
              · simp only [Act.put, List.setIfInBounds_toArray, List.set_cons_zero, List.set_cons_succ, i64_w, i32_w]
                rfl
              refine pure_ (i := 1) (N := some 46) (v := ?_) (a' := ?_) #[true, true, false, false, false, false, false, false, false, false, false, false, false, false, false] rfl rfl (any_of HT_.out (by kernel_rfl)) (fun _ _ _ h => h) (Or.inl ⟨by rfl, ?_⟩) ?_ ?_
              rotate_left
              · intro w'
                go_simp
                with_reducible rfl
              rotate_left
              · simp only [Act.put, List.setIfInBounds_toArray, List.set_cons_zero, List.set_cons_succ, i64_w, i32_w]
                rfl
              refine pure_ (i := 2) (N := some 47) (v := ?_) (a' := ?_) #[true, true, true, false, false, false, false, false, false, false, false, false, false, false, false] rfl rfl (any_of HT_.out (by kernel_rfl)) (fun _ _ _ h => h) (Or.inl ⟨by rfl, ?_⟩) ?_ ?_
              rotate_left
              · intro w'
                go_simp
                with_reducible rfl
              rotate_left
              · simp only [Act.put, List.setIfInBounds_toArray, List.set_cons_zero, List.set_cons_succ, i64_w, i32_w]
                rfl
              refine pure_ (i := 3) (N := some 48) (v := ?_) (a' := ?_) #[true, true, true, true, false, false, false, false, false, false, false, false, false, false, false] rfl rfl (any_of HT_.out (by kernel_rfl)) (fun _ _ _ h => h) (Or.inl ⟨by rfl, ?_⟩) ?_ ?_
              rotate_left
              · intro w'
                go_simp
                with_reducible rfl
              rotate_left
              · simp only [Act.put, List.setIfInBounds_toArray, List.set_cons_zero, List.set_cons_succ, i64_w, i32_w]
                rfl
              refine pure_ (i := 4) (N := some 49) (v := ?_) (a' := ?_) #[true, true, true, true, true, false, false, false, false, false, false, false, false, false, false] rfl rfl (any_of HT_.out (by kernel_rfl)) (fun _ _ _ h => h) (Or.inl ⟨by rfl, ?_⟩) ?_ ?_
              rotate_left
              · intro w'
                go_simp
                with_reducible rfl
              rotate_left
              · simp only [Act.put, List.setIfInBounds_toArray, List.set_cons_zero, List.set_cons_succ, i64_w, i32_w]
                rfl
              refine pure_ (i := 5) (N := some 50) (v := ?_) (a' := ?_) #[true, true, true, true, true, true, false, false, false, false, false, false, false, false, false] rfl rfl (any_of HT_.out (by kernel_rfl)) (fun _ _ _ h => h) (Or.inl ⟨by rfl, ?_⟩) ?_ ?_
              rotate_left
              · intro w'
                go_simp
                with_reducible rfl
              rotate_left
              · simp only [Act.put, List.setIfInBounds_toArray, List.set_cons_zero, List.set_cons_succ, i64_w, i32_w]
                rfl
              refine pure_ (i := 6) (N := some 51) (v := ?_) (a' := ?_) #[true, true, true, true, true, true, true, false, false, false, false, false, false, false, false] rfl rfl (any_of HT_.out (by kernel_rfl)) (fun _ _ _ h => h) (Or.inl ⟨by rfl, ?_⟩) ?_ ?_
              rotate_left
              · intro w'
                go_simp
                with_reducible rfl
              rotate_left
              · simp only [Act.put, List.setIfInBounds_toArray, List.set_cons_zero, List.set_cons_succ, i64_w, i32_w]
                rfl
              refine pure_ (i := 7) (N := some 52) (v := undef) (a' := ?_) #[true, true, true, true, true, true, true, true, false, false, false, false, false, false, false] rfl rfl (any_of HT_.out (by kernel_rfl)) (fun _ _ _ h => h) (Or.inr ⟨by rfl, rfl⟩) ?_ ?_
              rotate_left
              · simp only [Act.put, List.setIfInBounds_toArray, List.set_cons_zero, List.set_cons_succ, i64_w, i32_w]
                rfl
              refine pure_ (i := 8) (N := some 53) (v := undef) (a' := ?_) #[true, true, true, true, true, true, true, true, true, false, false, false, false, false, false] rfl rfl (any_of HT_.out (by kernel_rfl)) (fun _ _ _ h => h) (Or.inr ⟨by rfl, rfl⟩) ?_ ?_
              rotate_left
              · simp only [Act.put, List.setIfInBounds_toArray, List.set_cons_zero, List.set_cons_succ, i64_w, i32_w]
                rfl
              refine pure_ (i := 9) (N := some 54) (v := undef) (a' := ?_) #[true, true, true, true, true, true, true, true, true, true, false, false, false, false, false] rfl rfl (any_of HT_.out (by kernel_rfl)) (fun _ _ _ h => h) (Or.inr ⟨by rfl, rfl⟩) ?_ ?_
              rotate_left
              · simp only [Act.put, List.setIfInBounds_toArray, List.set_cons_zero, List.set_cons_succ, i64_w, i32_w]
                rfl
              refine pure_ (i := 10) (N := some 55) (v := undef) (a' := ?_) #[true, true, true, true, true, true, true, true, true, true, true, false, false, false, false] rfl rfl (any_of HT_.out (by kernel_rfl)) (fun _ _ _ h => h) (Or.inr ⟨by rfl, rfl⟩) ?_ ?_
              rotate_left
              · simp only [Act.put, List.setIfInBounds_toArray, List.set_cons_zero, List.set_cons_succ, i64_w, i32_w]
                rfl
              refine pure_ (i := 11) (N := some 56) (v := undef) (a' := ?_) #[true, true, true, true, true, true, true, true, true, true, true, true, false, false, false] rfl rfl (any_of HT_.out (by kernel_rfl)) (fun _ _ _ h => h) (Or.inr ⟨by rfl, rfl⟩) ?_ ?_
              rotate_left
              · simp only [Act.put, List.setIfInBounds_toArray, List.set_cons_zero, List.set_cons_succ, i64_w, i32_w]
                rfl
              refine pure_ (i := 12) (N := some 57) (v := undef) (a' := ?_) #[true, true, true, true, true, true, true, true, true, true, true, true, true, false, false] rfl rfl (any_of HT_.out (by kernel_rfl)) (fun _ _ _ h => h) (Or.inr ⟨by rfl, rfl⟩) ?_ ?_
              rotate_left
              · simp only [Act.put, List.setIfInBounds_toArray, List.set_cons_zero, List.set_cons_succ, i64_w, i32_w]
                rfl
              refine pure_ (i := 13) (N := some 58) (v := undef) (a' := ?_) #[true, true, true, true, true, true, true, true, true, true, true, true, true, true, false] rfl rfl (any_of HT_.out (by kernel_rfl)) (fun _ _ _ h => h) (Or.inr ⟨by rfl, rfl⟩) ?_ ?_
              rotate_left
              · simp only [Act.put, List.setIfInBounds_toArray, List.set_cons_zero, List.set_cons_succ, i64_w, i32_w]
                rfl
              refine pure_ (i := 14) (N := some 59) (v := ?_) (a' := ?_) #[true, true, true, true, true, true, true, true, true, true, true, true, true, true, true] rfl rfl (any_of HT_.out (by kernel_rfl)) (fun _ _ _ h => h) (Or.inl ⟨by rfl, ?_⟩) ?_ ?_
              rotate_left
              · intro w'
                go_simp
                with_reducible rfl
              rotate_left
              · simp only [Act.put, List.setIfInBounds_toArray, List.set_cons_zero, List.set_cons_succ, i64_w, i32_w]
                rfl
              refine done_ (done_of HT_.out (by kernel_rfl)) ?_
              try go_wp2
              go_meet
              case rel => exact ⟨_, (true), (by first | rfl | (simp; done) | (simp [*]; done) | (simp [bool_ne_nil]; done) | (simp; exact bool_ne_nil _)), H', ⟨by have := HJ5.out; first | omega | exact Nat.le_refl _⟩, ⟨by (with_reducible repeat (first | refine blk_drewN ?_ _ | refine blk_drew ?_ | refine blk_alloc ?_ _)); exact BK420.out⟩, ⟨by (with_reducible repeat (first | refine blk_drewN ?_ _ | refine blk_drew ?_ | refine blk_alloc ?_ _)); exact BK426.out⟩, ⟨by (with_reducible repeat (first | refine blk_drewN ?_ _ | refine blk_drew ?_ | refine blk_alloc ?_ _)); exact BK431.out⟩, ⟨by repeat (first | (with_reducible first | exact HB.out | apply below_alloc | apply pw_below_drewN | apply below_drew1 | refine below_set ?_ GE420.out | refine below_set ?_ GE426.out | refine below_set ?_ GE431.out) | exact HB.out)⟩⟩
          · rw [if_neg c27] at H
            have c27b0 : (t425 == 0) = false := beq_eq_false_iff_ne.mpr c27
            have c27b1 : (t425 != 0) = true := bne_iff_ne.mpr c27
            (first | rw [c27b0] | (simp only [i64_w, i32_w]; rw [c27b0]) | skip)
            have H' := Aside0.mk H
            clear H
            try go_wp2
            have n0_ : Aside0 ((((w23.setCell ⟨gb431, 0, none⟩ (.string t427)).setCell ⟨gb431, 1, none⟩ (.string t428)).setCell ⟨gb431, 2, none⟩ (.bool t429)).heap[gb420]? = some (.cells #[.string t416, .string t417, .bool t418] 32 (0, 0))) := ⟨by (with_reducible repeat (first | refine blk_drewN ?_ _ | refine blk_drew ?_ | refine blk_alloc ?_ _)); refine blk_far ?_ NB420_431.out _; (with_reducible repeat (first | refine blk_drewN ?_ _ | refine blk_drew ?_ | refine blk_alloc ?_ _)); refine blk_far ?_ NB420_431.out _; (with_reducible repeat (first | refine blk_drewN ?_ _ | refine blk_drew ?_ | refine blk_alloc ?_ _)); refine blk_far ?_ NB420_431.out _; (with_reducible repeat (first | refine blk_drewN ?_ _ | refine blk_drew ?_ | refine blk_alloc ?_ _)); exact BK420.out⟩
            have n1_ : Aside0 ((((w23.setCell ⟨gb431, 0, none⟩ (.string t427)).setCell ⟨gb431, 1, none⟩ (.string t428)).setCell ⟨gb431, 2, none⟩ (.bool t429)).heap[gb426]? = some (.cells #[.string t422, .string t423, .bool t424] 32 (0, 0))) := ⟨by (with_reducible repeat (first | refine blk_drewN ?_ _ | refine blk_drew ?_ | refine blk_alloc ?_ _)); refine blk_far ?_ NB426_431.out _; (with_reducible repeat (first | refine blk_drewN ?_ _ | refine blk_drew ?_ | refine blk_alloc ?_ _)); refine blk_far ?_ NB426_431.out _; (with_reducible repeat (first | refine blk_drewN ?_ _ | refine blk_drew ?_ | refine blk_alloc ?_ _)); refine blk_far ?_ NB426_431.out _; (with_reducible repeat (first | refine blk_drewN ?_ _ | refine blk_drew ?_ | refine blk_alloc ?_ _)); exact BK426.out⟩
            have n2_ : Aside0 ((((w23.setCell ⟨gb431, 0, none⟩ (.string t427)).setCell ⟨gb431, 1, none⟩ (.string t428)).setCell ⟨gb431, 2, none⟩ (.bool t429)).heap[gb431]? = some (.cells #[.string t427, .string t428, .bool t429] 32 (0, 0))) := ⟨by (with_reducible repeat (first | refine blk_drewN ?_ _ | refine blk_drew ?_ | refine blk_alloc ?_ _)); refine blk_put (cs := #[.string t427, .string t428, .bool false]) ?_ 2 _ rfl; (with_reducible repeat (first | refine blk_drewN ?_ _ | refine blk_drew ?_ | refine blk_alloc ?_ _)); refine blk_put (cs := #[.string t427, .string (⟨#[]⟩ : ByteArray), .bool false]) ?_ 1 _ rfl; (with_reducible repeat (first | refine blk_drewN ?_ _ | refine blk_drew ?_ | refine blk_alloc ?_ _)); refine blk_put (cs := #[.string (⟨#[]⟩ : ByteArray), .string (⟨#[]⟩ : ByteArray), .bool false]) ?_ 0 _ rfl; (with_reducible repeat (first | refine blk_drewN ?_ _ | refine blk_drew ?_ | refine blk_alloc ?_ _)); exact BK431.out⟩
            have n3_ : Aside0 (Below w.heap.size w (((w23.setCell ⟨gb431, 0, none⟩ (.string t427)).setCell ⟨gb431, 1, none⟩ (.string t428)).setCell ⟨gb431, 2, none⟩ (.bool t429))) := ⟨by repeat (first | (with_reducible first | exact HB.out | apply below_alloc | apply pw_below_drewN | apply below_drew1 | refine below_set ?_ GE420.out | refine below_set ?_ GE426.out | refine below_set ?_ GE431.out) | exact HB.out)⟩
            (try clear BK420)
            (try clear BK426)
            (try clear BK431)
            (try clear HB)
            generalize (((w23.setCell ⟨gb431, 0, none⟩ (.string t427)).setCell ⟨gb431, 1, none⟩ (.string t428)).setCell ⟨gb431, 2, none⟩ (.bool t429)) = w37 at n0_ n1_ n2_ n3_ ⊢
            have BK420 := n0_
            have BK426 := n1_
            have BK431 := n2_
            have HB := n3_
            clear n0_ n1_ n2_ n3_
            have n0_ := Aside0.mk (blk_drew BK420.out)
            have n1_ := Aside0.mk (blk_drew BK426.out)
            have n2_ := Aside0.mk (blk_drew BK431.out)
            have n3_ := Aside0.mk (below_drew1 HB.out)
            clear BK420
            clear BK426
            clear BK431
            clear HB
            have BK420 := n0_
            have BK426 := n1_
            have BK431 := n2_
            have HB := n3_
            clear n0_ n1_ n2_ n3_
            refine start_ (n := 15) (S := fun w' => True) (ds := []) #[false, false, false, false, false, false, false, false, false, false, false, false, false, false, false] (by kernel_rfl) rfl rfl trivial (fun hHeld => ?_); refine with_tabW vellumlaw02_CodeBegins.tab7 vellumlaw02_CodeBegins.bits7 (fun HT_ HW_ => ?_)
            generalize w37.drew = w38 at BK420 BK426 BK431 HB hHeld ⊢
            refine pure_ (i := 0) (N := some 45) (v := ?_) (a' := ?_) #[true, false, false, false, false, false, false, false, false, false, false, false, false, false, false] rfl rfl (any_of HT_.out (by kernel_rfl)) (fun _ _ _ h => h) (Or.inl ⟨by rfl, ?_⟩) ?_ ?_
            rotate_left
            · intro w'
              go_simp
              with_reducible rfl
            rotate_left
            · simp only [Act.put, List.setIfInBounds_toArray, List.set_cons_zero, List.set_cons_succ, i64_w, i32_w]
              rfl
            refine pure_ (i := 1) (N := some 46) (v := ?_) (a' := ?_) #[true, true, false, false, false, false, false, false, false, false, false, false, false, false, false] rfl rfl (any_of HT_.out (by kernel_rfl)) (fun _ _ _ h => h) (Or.inl ⟨by rfl, ?_⟩) ?_ ?_
            rotate_left
            · intro w'
              go_simp
              with_reducible rfl
            rotate_left
            · simp only [Act.put, List.setIfInBounds_toArray, List.set_cons_zero, List.set_cons_succ, i64_w, i32_w]
              rfl
            refine pure_ (i := 2) (N := some 47) (v := ?_) (a' := ?_) #[true, true, true, false, false, false, false, false, false, false, false, false, false, false, false] rfl rfl (any_of HT_.out (by kernel_rfl)) (fun _ _ _ h => h) (Or.inl ⟨by rfl, ?_⟩) ?_ ?_
            rotate_left
            · intro w'
              go_simp
              with_reducible rfl
            rotate_left
            · simp only [Act.put, List.setIfInBounds_toArray, List.set_cons_zero, List.set_cons_succ, i64_w, i32_w]
              rfl
            refine pure_ (i := 3) (N := some 48) (v := undef) (a' := ?_) #[true, true, true, true, false, false, false, false, false, false, false, false, false, false, false] rfl rfl (any_of HT_.out (by kernel_rfl)) (fun _ _ _ h => h) (Or.inr ⟨by rfl, rfl⟩) ?_ ?_
            rotate_left
            · simp only [Act.put, List.setIfInBounds_toArray, List.set_cons_zero, List.set_cons_succ, i64_w, i32_w]
              rfl
            refine pure_ (i := 4) (N := some 49) (v := undef) (a' := ?_) #[true, true, true, true, true, false, false, false, false, false, false, false, false, false, false] rfl rfl (any_of HT_.out (by kernel_rfl)) (fun _ _ _ h => h) (Or.inr ⟨by rfl, rfl⟩) ?_ ?_
            rotate_left
            · simp only [Act.put, List.setIfInBounds_toArray, List.set_cons_zero, List.set_cons_succ, i64_w, i32_w]
              rfl
            refine pure_ (i := 5) (N := some 50) (v := ?_) (a' := ?_) #[true, true, true, true, true, true, false, false, false, false, false, false, false, false, false] rfl rfl (any_of HT_.out (by kernel_rfl)) (fun _ _ _ h => h) (Or.inl ⟨by rfl, ?_⟩) ?_ ?_
            rotate_left
            · intro w'
              go_simp
              with_reducible rfl
            rotate_left
            · simp only [Act.put, List.setIfInBounds_toArray, List.set_cons_zero, List.set_cons_succ, i64_w, i32_w]
              rfl
            refine pure_ (i := 6) (N := some 51) (v := ?_) (a' := ?_) #[true, true, true, true, true, true, true, false, false, false, false, false, false, false, false] rfl rfl (any_of HT_.out (by kernel_rfl)) (fun _ _ _ h => h) (Or.inl ⟨by rfl, ?_⟩) ?_ ?_
            rotate_left
            · intro w'
              go_simp
              with_reducible rfl
            rotate_left
            · simp only [Act.put, List.setIfInBounds_toArray, List.set_cons_zero, List.set_cons_succ, i64_w, i32_w]
              rfl
            refine pure_ (i := 7) (N := some 52) (v := undef) (a' := ?_) #[true, true, true, true, true, true, true, true, false, false, false, false, false, false, false] rfl rfl (any_of HT_.out (by kernel_rfl)) (fun _ _ _ h => h) (Or.inr ⟨by rfl, rfl⟩) ?_ ?_
            rotate_left
            · simp only [Act.put, List.setIfInBounds_toArray, List.set_cons_zero, List.set_cons_succ, i64_w, i32_w]
              rfl
            refine pure_ (i := 8) (N := some 53) (v := undef) (a' := ?_) #[true, true, true, true, true, true, true, true, true, false, false, false, false, false, false] rfl rfl (any_of HT_.out (by kernel_rfl)) (fun _ _ _ h => h) (Or.inr ⟨by rfl, rfl⟩) ?_ ?_
            rotate_left
            · simp only [Act.put, List.setIfInBounds_toArray, List.set_cons_zero, List.set_cons_succ, i64_w, i32_w]
              rfl
            refine pure_ (i := 9) (N := some 54) (v := undef) (a' := ?_) #[true, true, true, true, true, true, true, true, true, true, false, false, false, false, false] rfl rfl (any_of HT_.out (by kernel_rfl)) (fun _ _ _ h => h) (Or.inr ⟨by rfl, rfl⟩) ?_ ?_
            rotate_left
            · simp only [Act.put, List.setIfInBounds_toArray, List.set_cons_zero, List.set_cons_succ, i64_w, i32_w]
              rfl
            refine pure_ (i := 10) (N := some 55) (v := undef) (a' := ?_) #[true, true, true, true, true, true, true, true, true, true, true, false, false, false, false] rfl rfl (any_of HT_.out (by kernel_rfl)) (fun _ _ _ h => h) (Or.inr ⟨by rfl, rfl⟩) ?_ ?_
            rotate_left
            · simp only [Act.put, List.setIfInBounds_toArray, List.set_cons_zero, List.set_cons_succ, i64_w, i32_w]
              rfl
            refine pure_ (i := 11) (N := some 56) (v := undef) (a' := ?_) #[true, true, true, true, true, true, true, true, true, true, true, true, false, false, false] rfl rfl (any_of HT_.out (by kernel_rfl)) (fun _ _ _ h => h) (Or.inr ⟨by rfl, rfl⟩) ?_ ?_
            rotate_left
            · simp only [Act.put, List.setIfInBounds_toArray, List.set_cons_zero, List.set_cons_succ, i64_w, i32_w]
              rfl
            refine pure_ (i := 12) (N := some 57) (v := undef) (a' := ?_) #[true, true, true, true, true, true, true, true, true, true, true, true, true, false, false] rfl rfl (any_of HT_.out (by kernel_rfl)) (fun _ _ _ h => h) (Or.inr ⟨by rfl, rfl⟩) ?_ ?_
            rotate_left
            · simp only [Act.put, List.setIfInBounds_toArray, List.set_cons_zero, List.set_cons_succ, i64_w, i32_w]
              rfl
            refine pure_ (i := 13) (N := some 58) (v := undef) (a' := ?_) #[true, true, true, true, true, true, true, true, true, true, true, true, true, true, false] rfl rfl (any_of HT_.out (by kernel_rfl)) (fun _ _ _ h => h) (Or.inr ⟨by rfl, rfl⟩) ?_ ?_
            rotate_left
            · simp only [Act.put, List.setIfInBounds_toArray, List.set_cons_zero, List.set_cons_succ, i64_w, i32_w]
              rfl
            refine pure_ (i := 14) (N := some 59) (v := ?_) (a' := ?_) #[true, true, true, true, true, true, true, true, true, true, true, true, true, true, true] rfl rfl (any_of HT_.out (by kernel_rfl)) (fun _ _ _ h => h) (Or.inl ⟨by rfl, ?_⟩) ?_ ?_
            rotate_left
            · intro w'
              go_simp
              with_reducible rfl
            rotate_left
            · simp only [Act.put, List.setIfInBounds_toArray, List.set_cons_zero, List.set_cons_succ, i64_w, i32_w]
              rfl
            refine done_ (done_of HT_.out (by kernel_rfl)) ?_
            try go_wp2
            go_meet
            case rel => exact ⟨_, (true), (by first | rfl | (simp; done) | (simp [*]; done) | (simp [bool_ne_nil]; done) | (simp; exact bool_ne_nil _)), H', ⟨by have := HJ5.out; first | omega | exact Nat.le_refl _⟩, ⟨by (with_reducible repeat (first | refine blk_drewN ?_ _ | refine blk_drew ?_ | refine blk_alloc ?_ _)); exact BK420.out⟩, ⟨by (with_reducible repeat (first | refine blk_drewN ?_ _ | refine blk_drew ?_ | refine blk_alloc ?_ _)); exact BK426.out⟩, ⟨by (with_reducible repeat (first | refine blk_drewN ?_ _ | refine blk_drew ?_ | refine blk_alloc ?_ _)); exact BK431.out⟩, ⟨by repeat (first | (with_reducible first | exact HB.out | apply below_alloc | apply pw_below_drewN | apply below_drew1 | refine below_set ?_ GE420.out | refine below_set ?_ GE426.out | refine below_set ?_ GE431.out) | exact HB.out)⟩⟩
        case rest =>
          clear HC17
          try clear c1
          try clear c2
          try clear p2
          try clear c3
          try clear c4
          try clear c7
          try clear c11
          try clear c11b0
          try clear c11b1
          try clear c12
          try clear c20
          try clear c21
          try clear c23
          try clear c24
          try clear c25
          try clear c27
          try clear c27b0
          try clear c27b1
          try clear c28
          try clear c28b0
          try clear c28b1
          try clear c36
          try clear c38
          try clear hcz10_0
          try clear hcz10_1
          try clear hcz10_2
          try clear hcz21_0
          try clear hcz21_1
          try clear hcz21_2
          try clear hcz26_0
          try clear hcz26_1
          try clear hcz26_2
          try clear hfz10_0
          try clear hfz10_1
          try clear hfz10_2
          try clear hfz21_0
          try clear hfz21_1
          try clear hfz21_2
          try clear hfz26_0
          try clear hfz26_1
          try clear hfz26_2
          try clear p2
          obtain ⟨kq, x59_16, rfl, HA, HJ16, BK420, BK426, BK431, HB⟩ := hcut
          cases kq with
          | zero => exact absurd HA.out (by simp [vellumlaw02_CodeBegins.j1])
          | succ kj16 =>
            have H := HA.out
            clear HA
            simp only [vellumlaw02_CodeBegins.j1] at H
            by_cases c39 : x59_16 = true
            · subst c39
              have H1 : (some false) = some r := by rw [if_pos rfl] at H; exact H
              clear H
              have H := H1
              clear H1
              obtain rfl := Option.some.inj H
              go_wp2
              go_ret
              exact ⟨by first | rfl | (simp [errW_none, errW_some] <;> rfl) | (simp [*, errW_none, errW_some] <;> rfl), by repeat (first | (with_reducible first | exact HB.out | apply below_alloc | apply pw_below_drewN | apply below_drew1 | refine below_set ?_ GE420.out | refine below_set ?_ GE426.out | refine below_set ?_ GE431.out) | exact HB.out)⟩
            · replace c39 := Bool.eq_false_iff.mpr c39
              subst c39
              have H1 : ((code_Has.f t416 t417 t418 t414).bind fun t434 => ((vellumlaw02_begins.f kj16 l0 l1).bind fun t435 => (if (t434 == t435) = true then ((code_Has.f t422 t423 t424 t414).bind fun t436 => ((vellumref02_Cmp.f kj16 l1 l0).bind fun t437 => (if t437 ≥ 0 then (if a2 = true then (if (t436 == true) = true then ((vellumlaw02_awake.f kj16).bind fun t438 => (some t438)) else (some false)) else ((vellumlaw02_begins.f kj16 l0 l1).bind fun t439 => (if (t436 == (!t439)) = true then ((vellumlaw02_awake.f kj16).bind fun t440 => (some t440)) else (some false)))) else (if (t436 == false) = true then ((vellumlaw02_awake.f kj16).bind fun t441 => (some t441)) else (some false))))) else (some false)))) = some r := by rw [if_neg (show ¬ (false = true) by decide)] at H; exact H
              clear H
              have H := H1
              clear H1
              replace H := Option.bind_eq_some_iff.mp H
              obtain ⟨t434, A400, H⟩ := H
              replace H : ((vellumlaw02_begins.f kj16 l0 l1).bind fun t435 => (if (t434 == t435) = true then ((code_Has.f t422 t423 t424 t414).bind fun t436 => ((vellumref02_Cmp.f kj16 l1 l0).bind fun t437 => (if t437 ≥ 0 then (if a2 = true then (if (t436 == true) = true then ((vellumlaw02_awake.f kj16).bind fun t438 => (some t438)) else (some false)) else ((vellumlaw02_begins.f kj16 l0 l1).bind fun t439 => (if (t436 == (!t439)) = true then ((vellumlaw02_awake.f kj16).bind fun t440 => (some t440)) else (some false)))) else (if (t436 == false) = true then ((vellumlaw02_awake.f kj16).bind fun t441 => (some t441)) else (some false))))) else (some false))) = some r := H
              have A40 := Aside0.mk A400
              clear A400
              replace H := Option.bind_eq_some_iff.mp H
              obtain ⟨t435, A410, H⟩ := H
              replace H : (if (t434 == t435) = true then ((code_Has.f t422 t423 t424 t414).bind fun t436 => ((vellumref02_Cmp.f kj16 l1 l0).bind fun t437 => (if t437 ≥ 0 then (if a2 = true then (if (t436 == true) = true then ((vellumlaw02_awake.f kj16).bind fun t438 => (some t438)) else (some false)) else ((vellumlaw02_begins.f kj16 l0 l1).bind fun t439 => (if (t436 == (!t439)) = true then ((vellumlaw02_awake.f kj16).bind fun t440 => (some t440)) else (some false)))) else (if (t436 == false) = true then ((vellumlaw02_awake.f kj16).bind fun t441 => (some t441)) else (some false))))) else (some false)) = some r := H
              have A41 := Aside0.mk A410
              clear A410
              by_cases c42 : (t434 == t435) = true
              · rw [if_pos c42] at H
                have c42b0 : (t434 == t435) = true := c42
                (try (have c42b1 : decide (t434 = t435) = true := by simpa using c42))
                (try (have c42b2 : (t434 == t435) = true := by simpa using c42))
                clear c42
                replace H := Option.bind_eq_some_iff.mp H
                obtain ⟨t436, A430, H⟩ := H
                replace H : ((vellumref02_Cmp.f kj16 l1 l0).bind fun t437 => (if t437 ≥ 0 then (if a2 = true then (if (t436 == true) = true then ((vellumlaw02_awake.f kj16).bind fun t438 => (some t438)) else (some false)) else ((vellumlaw02_begins.f kj16 l0 l1).bind fun t439 => (if (t436 == (!t439)) = true then ((vellumlaw02_awake.f kj16).bind fun t440 => (some t440)) else (some false)))) else (if (t436 == false) = true then ((vellumlaw02_awake.f kj16).bind fun t441 => (some t441)) else (some false)))) = some r := H
                have A43 := Aside0.mk A430
                clear A430
                replace H := Option.bind_eq_some_iff.mp H
                obtain ⟨t437, A440, H⟩ := H
                replace H : (if t437 ≥ 0 then (if a2 = true then (if (t436 == true) = true then ((vellumlaw02_awake.f kj16).bind fun t438 => (some t438)) else (some false)) else ((vellumlaw02_begins.f kj16 l0 l1).bind fun t439 => (if (t436 == (!t439)) = true then ((vellumlaw02_awake.f kj16).bind fun t440 => (some t440)) else (some false)))) else (if (t436 == false) = true then ((vellumlaw02_awake.f kj16).bind fun t441 => (some t441)) else (some false))) = some r := H
                have A44 := Aside0.mk A440
                clear A440
                by_cases c45 : t437 ≥ 0
                · rw [if_pos c45] at H
                  have c45b0 : decide (0 ≤ t437) = true := decide_eq_true c45
                  clear c45
                  by_cases c46 : a2 = true
                  · subst c46
                    have H1 : (if (t436 == true) = true then ((vellumlaw02_awake.f kj16).bind fun t438 => (some t438)) else (some false)) = some r := by rw [if_pos rfl] at H; exact H
                    clear H
                    have H := H1
                    clear H1
                    by_cases c47 : (t436 == true) = true
                    · rw [if_pos c47] at H
                      have c47b0 : (t436 == true) = true := c47
                      (try (have c47b1 : decide (t436 = true) = true := by simpa using c47))
                      (try (have c47b2 : (t436 == true) = true := by simpa using c47))
                      clear c47
                      replace H := Option.bind_eq_some_iff.mp H
                      obtain ⟨t438, A480, H⟩ := H
                      replace H : (some t438) = some r := H
                      have A48 := Aside0.mk A480
                      clear A480
                      obtain rfl := Option.some.inj H
                      have hnb49 := NB420_426.out
                      have hnc49 := NB426_420.out
                      have hnb50 := NB420_431.out
                      have hnc50 := NB431_420.out
                      have hcz51_0 : wc.cell? ⟨gb420, 0, none⟩ = some (.string t416) := (blk_cell BK420.out 0).trans rfl
                      have hcz51_1 : wc.cell? ⟨gb420, 1, none⟩ = some (.string t417) := (blk_cell BK420.out 1).trans rfl
                      have hcz51_2 : wc.cell? ⟨gb420, 2, none⟩ = some (.bool t418) := (blk_cell BK420.out 2).trans rfl
                      have hfz51_0 := blk_frozen BK420.out 0
                      have hfz51_1 := blk_frozen BK420.out 1
                      have hfz51_2 := blk_frozen BK420.out 2
                      go_wp2_with (first | ((with_reducible refine gate_callee (f := 28) rfl ?_); refine goesL_ (some 62) rfl rfl Tryd.func28 (by kernel_rfl) rfl #[.agg #[.string t416, .string t417, .bool t418], .string t414] rfl (by (try simp only [List.map_toArray, List.map_cons, List.map_nil]); first | done | rfl | (simp only [List.length_drop, List.length_take]; rfl)) ?_; (with_reducible refine (code_Has.calls t416 t417 t418 t414 t434 _ A40.out).mono ?_); rintro e w52 ⟨rfl, hb⟩; refine ⟨_, rfl, ?_⟩; have n0_ := Aside0.mk (blk_below (g := gb420) (o := .cells #[.string t416, .string t417, .bool t418] 32 (0, 0)) (by (with_reducible repeat (first | refine blk_drewN ?_ _ | refine blk_drew ?_ | refine blk_alloc ?_ _)); exact BK420.out) hb); have n1_ := Aside0.mk (blk_below (g := gb426) (o := .cells #[.string t422, .string t423, .bool t424] 32 (0, 0)) (by (with_reducible repeat (first | refine blk_drewN ?_ _ | refine blk_drew ?_ | refine blk_alloc ?_ _)); exact BK426.out) hb); have n2_ := Aside0.mk (blk_below (g := gb431) (o := .cells #[.string t427, .string t428, .bool t429] 32 (0, 0)) (by (with_reducible repeat (first | refine blk_drewN ?_ _ | refine blk_drew ?_ | refine blk_alloc ?_ _)); exact BK431.out) hb); have n3_ := Aside0.mk (below_step (by repeat (first | (with_reducible first | exact HB.out | apply below_alloc | apply pw_below_drewN | apply below_drew1 | refine below_set ?_ GE420.out | refine below_set ?_ GE426.out | refine below_set ?_ GE431.out) | exact HB.out)) hb); clear BK420; clear BK426; clear BK431; clear HB; have BK420 := n0_; have BK426 := n1_; have BK431 := n2_; have HB := n3_; clear n0_ n1_ n2_ n3_; (try clear hb); (try clear hb2); (try clear hk); (try clear hi)) | ((with_reducible refine gate_callee (f := 42) rfl ?_); refine goesL_ (some 65) rfl rfl Tryd.func42 (by kernel_rfl) rfl #[.slice A0 l0.length c0, .slice A1 l1.length c1] rfl (by (try simp only [List.map_toArray, List.map_cons, List.map_nil]); first | done | rfl | (simp only [List.length_drop, List.length_take]; rfl)) ?_; (with_reducible refine (vellumlaw02_begins.calls kj16 _ _ l0 _ _ l1 t435 _ ?side1 ?side2 ?side3 ?side4 A41.out).mono ?_); (case side1 => repeat (first | exact (Kd.C_below HR0.out HB.out) | (with_reducible refine Kd.C_alloc ?_ _) | (with_reducible refine Kd.C_drewN ?_ _) | (with_reducible refine Kd.C_drew ?_))); (case side2 => exact HC0.out); (case side3 => repeat (first | exact (Kd.C_below HR1.out HB.out) | (with_reducible refine Kd.C_alloc ?_ _) | (with_reducible refine Kd.C_drewN ?_ _) | (with_reducible refine Kd.C_drew ?_))); (case side4 => exact HC1.out); rintro e w53 ⟨rfl, hb⟩; refine ⟨_, rfl, ?_⟩; have n0_ := Aside0.mk (blk_below (g := gb420) (o := .cells #[.string t416, .string t417, .bool t418] 32 (0, 0)) (by (with_reducible repeat (first | refine blk_drewN ?_ _ | refine blk_drew ?_ | refine blk_alloc ?_ _)); exact BK420.out) hb); have n1_ := Aside0.mk (blk_below (g := gb426) (o := .cells #[.string t422, .string t423, .bool t424] 32 (0, 0)) (by (with_reducible repeat (first | refine blk_drewN ?_ _ | refine blk_drew ?_ | refine blk_alloc ?_ _)); exact BK426.out) hb); have n2_ := Aside0.mk (blk_below (g := gb431) (o := .cells #[.string t427, .string t428, .bool t429] 32 (0, 0)) (by (with_reducible repeat (first | refine blk_drewN ?_ _ | refine blk_drew ?_ | refine blk_alloc ?_ _)); exact BK431.out) hb); have n3_ := Aside0.mk (below_step (by repeat (first | (with_reducible first | exact HB.out | apply below_alloc | apply pw_below_drewN | apply below_drew1 | refine below_set ?_ GE420.out | refine below_set ?_ GE426.out | refine below_set ?_ GE431.out) | exact HB.out)) hb); clear BK420; clear BK426; clear BK431; clear HB; have BK420 := n0_; have BK426 := n1_; have BK431 := n2_; have HB := n3_; clear n0_ n1_ n2_ n3_; (try clear hb); (try clear hb2); (try clear hk); (try clear hi); have hnb54 := NB426_431.out; have hnc54 := NB431_426.out; have hcz55_0 : w53.cell? ⟨gb426, 0, none⟩ = some (.string t422) := (blk_cell BK426.out 0).trans rfl; have hcz55_1 : w53.cell? ⟨gb426, 1, none⟩ = some (.string t423) := (blk_cell BK426.out 1).trans rfl; have hcz55_2 : w53.cell? ⟨gb426, 2, none⟩ = some (.bool t424) := (blk_cell BK426.out 2).trans rfl; have hfz55_0 := blk_frozen BK426.out 0; have hfz55_1 := blk_frozen BK426.out 1; have hfz55_2 := blk_frozen BK426.out 2) | (go_at_call 28; (with_reducible refine (code_Has.calls t422 t423 t424 t414 t436 _ A43.out).mono ?_); rintro e w56 ⟨rfl, hb⟩; have n0_ := Aside0.mk (blk_below (g := gb420) (o := .cells #[.string t416, .string t417, .bool t418] 32 (0, 0)) (by (with_reducible repeat (first | refine blk_drewN ?_ _ | refine blk_drew ?_ | refine blk_alloc ?_ _)); exact BK420.out) hb); have n1_ := Aside0.mk (blk_below (g := gb426) (o := .cells #[.string t422, .string t423, .bool t424] 32 (0, 0)) (by (with_reducible repeat (first | refine blk_drewN ?_ _ | refine blk_drew ?_ | refine blk_alloc ?_ _)); exact BK426.out) hb); have n2_ := Aside0.mk (blk_below (g := gb431) (o := .cells #[.string t427, .string t428, .bool t429] 32 (0, 0)) (by (with_reducible repeat (first | refine blk_drewN ?_ _ | refine blk_drew ?_ | refine blk_alloc ?_ _)); exact BK431.out) hb); have n3_ := Aside0.mk (below_step (by repeat (first | (with_reducible first | exact HB.out | apply below_alloc | apply pw_below_drewN | apply below_drew1 | refine below_set ?_ GE420.out | refine below_set ?_ GE426.out | refine below_set ?_ GE431.out) | exact HB.out)) hb); clear BK420; clear BK426; clear BK431; clear HB; have BK420 := n0_; have BK426 := n1_; have BK431 := n2_; have HB := n3_; clear n0_ n1_ n2_ n3_; (try clear hb); (try clear hb2); (try clear hk); (try clear hi)) | (go_at_call 25; (with_reducible refine (vellumref02_Cmp.calls kj16 _ _ l1 _ _ l0 t437 _ ?side1 ?side2 ?side3 ?side4 A44.out).mono ?_); (case side1 => repeat (first | exact (Kd.C_below HR1.out HB.out) | (with_reducible refine Kd.C_alloc ?_ _) | (with_reducible refine Kd.C_drewN ?_ _) | (with_reducible refine Kd.C_drew ?_))); (case side2 => exact HC1.out); (case side3 => repeat (first | exact (Kd.C_below HR0.out HB.out) | (with_reducible refine Kd.C_alloc ?_ _) | (with_reducible refine Kd.C_drewN ?_ _) | (with_reducible refine Kd.C_drew ?_))); (case side4 => exact HC0.out); rintro e w57 ⟨rfl, hb⟩; have n0_ := Aside0.mk (blk_below (g := gb420) (o := .cells #[.string t416, .string t417, .bool t418] 32 (0, 0)) (by (with_reducible repeat (first | refine blk_drewN ?_ _ | refine blk_drew ?_ | refine blk_alloc ?_ _)); exact BK420.out) hb); have n1_ := Aside0.mk (blk_below (g := gb426) (o := .cells #[.string t422, .string t423, .bool t424] 32 (0, 0)) (by (with_reducible repeat (first | refine blk_drewN ?_ _ | refine blk_drew ?_ | refine blk_alloc ?_ _)); exact BK426.out) hb); have n2_ := Aside0.mk (blk_below (g := gb431) (o := .cells #[.string t427, .string t428, .bool t429] 32 (0, 0)) (by (with_reducible repeat (first | refine blk_drewN ?_ _ | refine blk_drew ?_ | refine blk_alloc ?_ _)); exact BK431.out) hb); have n3_ := Aside0.mk (below_step (by repeat (first | (with_reducible first | exact HB.out | apply below_alloc | apply pw_below_drewN | apply below_drew1 | refine below_set ?_ GE420.out | refine below_set ?_ GE426.out | refine below_set ?_ GE431.out) | exact HB.out)) hb); clear BK420; clear BK426; clear BK431; clear HB; have BK420 := n0_; have BK426 := n1_; have BK431 := n2_; have HB := n3_; clear n0_ n1_ n2_ n3_; (try clear hb); (try clear hb2); (try clear hk); (try clear hi)) | (go_at_call 23; (with_reducible refine (vellumlaw02_awake.calls kj16  t438 _ ?side1 A48.out).mono ?_); (case side1 => exact Glob.below HG.out (by repeat (first | (with_reducible first | exact HB.out | apply below_alloc | apply pw_below_drewN | apply below_drew1 | refine below_set ?_ GE420.out | refine below_set ?_ GE426.out | refine below_set ?_ GE431.out) | exact HB.out))); rintro e w58 ⟨rfl, hb⟩; have n0_ := Aside0.mk (blk_below (g := gb420) (o := .cells #[.string t416, .string t417, .bool t418] 32 (0, 0)) (by (with_reducible repeat (first | refine blk_drewN ?_ _ | refine blk_drew ?_ | refine blk_alloc ?_ _)); exact BK420.out) hb); have n1_ := Aside0.mk (blk_below (g := gb426) (o := .cells #[.string t422, .string t423, .bool t424] 32 (0, 0)) (by (with_reducible repeat (first | refine blk_drewN ?_ _ | refine blk_drew ?_ | refine blk_alloc ?_ _)); exact BK426.out) hb); have n2_ := Aside0.mk (blk_below (g := gb431) (o := .cells #[.string t427, .string t428, .bool t429] 32 (0, 0)) (by (with_reducible repeat (first | refine blk_drewN ?_ _ | refine blk_drew ?_ | refine blk_alloc ?_ _)); exact BK431.out) hb); have n3_ := Aside0.mk (below_step (by repeat (first | (with_reducible first | exact HB.out | apply below_alloc | apply pw_below_drewN | apply below_drew1 | refine below_set ?_ GE420.out | refine below_set ?_ GE426.out | refine below_set ?_ GE431.out) | exact HB.out)) hb); clear BK420; clear BK426; clear BK431; clear HB; have BK420 := n0_; have BK426 := n1_; have BK431 := n2_; have HB := n3_; clear n0_ n1_ n2_ n3_; (try clear hb); (try clear hb2); (try clear hk); (try clear hi)))
                      go_ret
                      exact ⟨by first | rfl | (simp [errW_none, errW_some] <;> rfl) | (simp [*, errW_none, errW_some] <;> rfl), by repeat (first | (with_reducible first | exact HB.out | apply below_alloc | apply pw_below_drewN | apply below_drew1 | refine below_set ?_ GE420.out | refine below_set ?_ GE426.out | refine below_set ?_ GE431.out) | exact HB.out)⟩
                    · rw [if_neg c47] at H
                      have c47b0 : (t436 == true) = false := by simpa using c47
                      (try (have c47b1 : decide (t436 = true) = false := by simpa using c47))
                      (try (have c47b2 : (t436 == true) = false := by simpa using c47))
                      (try (have c47b3 : ¬ (t436 = true) := by simpa using c47))
                      clear c47
                      obtain rfl := Option.some.inj H
                      have hnb59 := NB420_426.out
                      have hnc59 := NB426_420.out
                      have hnb60 := NB420_431.out
                      have hnc60 := NB431_420.out
                      have hcz61_0 : wc.cell? ⟨gb420, 0, none⟩ = some (.string t416) := (blk_cell BK420.out 0).trans rfl
                      have hcz61_1 : wc.cell? ⟨gb420, 1, none⟩ = some (.string t417) := (blk_cell BK420.out 1).trans rfl
                      have hcz61_2 : wc.cell? ⟨gb420, 2, none⟩ = some (.bool t418) := (blk_cell BK420.out 2).trans rfl
                      have hfz61_0 := blk_frozen BK420.out 0
                      have hfz61_1 := blk_frozen BK420.out 1
                      have hfz61_2 := blk_frozen BK420.out 2
                      go_wp2_with (first | ((with_reducible refine gate_callee (f := 28) rfl ?_); refine goesL_ (some 62) rfl rfl Tryd.func28 (by kernel_rfl) rfl #[.agg #[.string t416, .string t417, .bool t418], .string t414] rfl (by (try simp only [List.map_toArray, List.map_cons, List.map_nil]); first | done | rfl | (simp only [List.length_drop, List.length_take]; rfl)) ?_; (with_reducible refine (code_Has.calls t416 t417 t418 t414 t434 _ A40.out).mono ?_); rintro e w62 ⟨rfl, hb⟩; refine ⟨_, rfl, ?_⟩; have n0_ := Aside0.mk (blk_below (g := gb420) (o := .cells #[.string t416, .string t417, .bool t418] 32 (0, 0)) (by (with_reducible repeat (first | refine blk_drewN ?_ _ | refine blk_drew ?_ | refine blk_alloc ?_ _)); exact BK420.out) hb); have n1_ := Aside0.mk (blk_below (g := gb426) (o := .cells #[.string t422, .string t423, .bool t424] 32 (0, 0)) (by (with_reducible repeat (first | refine blk_drewN ?_ _ | refine blk_drew ?_ | refine blk_alloc ?_ _)); exact BK426.out) hb); have n2_ := Aside0.mk (blk_below (g := gb431) (o := .cells #[.string t427, .string t428, .bool t429] 32 (0, 0)) (by (with_reducible repeat (first | refine blk_drewN ?_ _ | refine blk_drew ?_ | refine blk_alloc ?_ _)); exact BK431.out) hb); have n3_ := Aside0.mk (below_step (by repeat (first | (with_reducible first | exact HB.out | apply below_alloc | apply pw_below_drewN | apply below_drew1 | refine below_set ?_ GE420.out | refine below_set ?_ GE426.out | refine below_set ?_ GE431.out) | exact HB.out)) hb); clear BK420; clear BK426; clear BK431; clear HB; have BK420 := n0_; have BK426 := n1_; have BK431 := n2_; have HB := n3_; clear n0_ n1_ n2_ n3_; (try clear hb); (try clear hb2); (try clear hk); (try clear hi)) | ((with_reducible refine gate_callee (f := 42) rfl ?_); refine goesL_ (some 65) rfl rfl Tryd.func42 (by kernel_rfl) rfl #[.slice A0 l0.length c0, .slice A1 l1.length c1] rfl (by (try simp only [List.map_toArray, List.map_cons, List.map_nil]); first | done | rfl | (simp only [List.length_drop, List.length_take]; rfl)) ?_; (with_reducible refine (vellumlaw02_begins.calls kj16 _ _ l0 _ _ l1 t435 _ ?side1 ?side2 ?side3 ?side4 A41.out).mono ?_); (case side1 => repeat (first | exact (Kd.C_below HR0.out HB.out) | (with_reducible refine Kd.C_alloc ?_ _) | (with_reducible refine Kd.C_drewN ?_ _) | (with_reducible refine Kd.C_drew ?_))); (case side2 => exact HC0.out); (case side3 => repeat (first | exact (Kd.C_below HR1.out HB.out) | (with_reducible refine Kd.C_alloc ?_ _) | (with_reducible refine Kd.C_drewN ?_ _) | (with_reducible refine Kd.C_drew ?_))); (case side4 => exact HC1.out); rintro e w63 ⟨rfl, hb⟩; refine ⟨_, rfl, ?_⟩; have n0_ := Aside0.mk (blk_below (g := gb420) (o := .cells #[.string t416, .string t417, .bool t418] 32 (0, 0)) (by (with_reducible repeat (first | refine blk_drewN ?_ _ | refine blk_drew ?_ | refine blk_alloc ?_ _)); exact BK420.out) hb); have n1_ := Aside0.mk (blk_below (g := gb426) (o := .cells #[.string t422, .string t423, .bool t424] 32 (0, 0)) (by (with_reducible repeat (first | refine blk_drewN ?_ _ | refine blk_drew ?_ | refine blk_alloc ?_ _)); exact BK426.out) hb); have n2_ := Aside0.mk (blk_below (g := gb431) (o := .cells #[.string t427, .string t428, .bool t429] 32 (0, 0)) (by (with_reducible repeat (first | refine blk_drewN ?_ _ | refine blk_drew ?_ | refine blk_alloc ?_ _)); exact BK431.out) hb); have n3_ := Aside0.mk (below_step (by repeat (first | (with_reducible first | exact HB.out | apply below_alloc | apply pw_below_drewN | apply below_drew1 | refine below_set ?_ GE420.out | refine below_set ?_ GE426.out | refine below_set ?_ GE431.out) | exact HB.out)) hb); clear BK420; clear BK426; clear BK431; clear HB; have BK420 := n0_; have BK426 := n1_; have BK431 := n2_; have HB := n3_; clear n0_ n1_ n2_ n3_; (try clear hb); (try clear hb2); (try clear hk); (try clear hi); have hnb64 := NB426_431.out; have hnc64 := NB431_426.out; have hcz65_0 : w63.cell? ⟨gb426, 0, none⟩ = some (.string t422) := (blk_cell BK426.out 0).trans rfl; have hcz65_1 : w63.cell? ⟨gb426, 1, none⟩ = some (.string t423) := (blk_cell BK426.out 1).trans rfl; have hcz65_2 : w63.cell? ⟨gb426, 2, none⟩ = some (.bool t424) := (blk_cell BK426.out 2).trans rfl; have hfz65_0 := blk_frozen BK426.out 0; have hfz65_1 := blk_frozen BK426.out 1; have hfz65_2 := blk_frozen BK426.out 2) | (go_at_call 28; (with_reducible refine (code_Has.calls t422 t423 t424 t414 t436 _ A43.out).mono ?_); rintro e w66 ⟨rfl, hb⟩; have n0_ := Aside0.mk (blk_below (g := gb420) (o := .cells #[.string t416, .string t417, .bool t418] 32 (0, 0)) (by (with_reducible repeat (first | refine blk_drewN ?_ _ | refine blk_drew ?_ | refine blk_alloc ?_ _)); exact BK420.out) hb); have n1_ := Aside0.mk (blk_below (g := gb426) (o := .cells #[.string t422, .string t423, .bool t424] 32 (0, 0)) (by (with_reducible repeat (first | refine blk_drewN ?_ _ | refine blk_drew ?_ | refine blk_alloc ?_ _)); exact BK426.out) hb); have n2_ := Aside0.mk (blk_below (g := gb431) (o := .cells #[.string t427, .string t428, .bool t429] 32 (0, 0)) (by (with_reducible repeat (first | refine blk_drewN ?_ _ | refine blk_drew ?_ | refine blk_alloc ?_ _)); exact BK431.out) hb); have n3_ := Aside0.mk (below_step (by repeat (first | (with_reducible first | exact HB.out | apply below_alloc | apply pw_below_drewN | apply below_drew1 | refine below_set ?_ GE420.out | refine below_set ?_ GE426.out | refine below_set ?_ GE431.out) | exact HB.out)) hb); clear BK420; clear BK426; clear BK431; clear HB; have BK420 := n0_; have BK426 := n1_; have BK431 := n2_; have HB := n3_; clear n0_ n1_ n2_ n3_; (try clear hb); (try clear hb2); (try clear hk); (try clear hi)) | (go_at_call 25; (with_reducible refine (vellumref02_Cmp.calls kj16 _ _ l1 _ _ l0 t437 _ ?side1 ?side2 ?side3 ?side4 A44.out).mono ?_); (case side1 => repeat (first | exact (Kd.C_below HR1.out HB.out) | (with_reducible refine Kd.C_alloc ?_ _) | (with_reducible refine Kd.C_drewN ?_ _) | (with_reducible refine Kd.C_drew ?_))); (case side2 => exact HC1.out); (case side3 => repeat (first | exact (Kd.C_below HR0.out HB.out) | (with_reducible refine Kd.C_alloc ?_ _) | (with_reducible refine Kd.C_drewN ?_ _) | (with_reducible refine Kd.C_drew ?_))); (case side4 => exact HC0.out); rintro e w67 ⟨rfl, hb⟩; have n0_ := Aside0.mk (blk_below (g := gb420) (o := .cells #[.string t416, .string t417, .bool t418] 32 (0, 0)) (by (with_reducible repeat (first | refine blk_drewN ?_ _ | refine blk_drew ?_ | refine blk_alloc ?_ _)); exact BK420.out) hb); have n1_ := Aside0.mk (blk_below (g := gb426) (o := .cells #[.string t422, .string t423, .bool t424] 32 (0, 0)) (by (with_reducible repeat (first | refine blk_drewN ?_ _ | refine blk_drew ?_ | refine blk_alloc ?_ _)); exact BK426.out) hb); have n2_ := Aside0.mk (blk_below (g := gb431) (o := .cells #[.string t427, .string t428, .bool t429] 32 (0, 0)) (by (with_reducible repeat (first | refine blk_drewN ?_ _ | refine blk_drew ?_ | refine blk_alloc ?_ _)); exact BK431.out) hb); have n3_ := Aside0.mk (below_step (by repeat (first | (with_reducible first | exact HB.out | apply below_alloc | apply pw_below_drewN | apply below_drew1 | refine below_set ?_ GE420.out | refine below_set ?_ GE426.out | refine below_set ?_ GE431.out) | exact HB.out)) hb); clear BK420; clear BK426; clear BK431; clear HB; have BK420 := n0_; have BK426 := n1_; have BK431 := n2_; have HB := n3_; clear n0_ n1_ n2_ n3_; (try clear hb); (try clear hb2); (try clear hk); (try clear hi)))
                      go_ret
                      exact ⟨by first | rfl | (simp [errW_none, errW_some] <;> rfl) | (simp [*, errW_none, errW_some] <;> rfl), by repeat (first | (with_reducible first | exact HB.out | apply below_alloc | apply pw_below_drewN | apply below_drew1 | refine below_set ?_ GE420.out | refine below_set ?_ GE426.out | refine below_set ?_ GE431.out) | exact HB.out)⟩
                  · replace c46 := Bool.eq_false_iff.mpr c46
                    subst c46
                    have H1 : ((vellumlaw02_begins.f kj16 l0 l1).bind fun t439 => (if (t436 == (!t439)) = true then ((vellumlaw02_awake.f kj16).bind fun t440 => (some t440)) else (some false))) = some r := by rw [if_neg (show ¬ (false = true) by decide)] at H; exact H
                    clear H
                    have H := H1
                    clear H1
                    replace H := Option.bind_eq_some_iff.mp H
                    obtain ⟨t439, A680, H⟩ := H
                    replace H : (if (t436 == (!t439)) = true then ((vellumlaw02_awake.f kj16).bind fun t440 => (some t440)) else (some false)) = some r := H
                    have A68 := Aside0.mk A680
                    clear A680
                    by_cases c69 : (t436 == (!t439)) = true
                    · rw [if_pos c69] at H
                      have c69b0 : (t436 == (!t439)) = true := c69
                      (try (have c69b1 : decide (t436 = (!t439)) = true := by simpa using c69))
                      (try (have c69b2 : (t436 == (!t439)) = true := by simpa using c69))
                      clear c69
                      replace H := Option.bind_eq_some_iff.mp H
                      obtain ⟨t440, A700, H⟩ := H
                      replace H : (some t440) = some r := H
                      have A70 := Aside0.mk A700
                      clear A700
                      obtain rfl := Option.some.inj H
                      have hnb71 := NB420_426.out
                      have hnc71 := NB426_420.out
                      have hnb72 := NB420_431.out
                      have hnc72 := NB431_420.out
                      have hcz73_0 : wc.cell? ⟨gb420, 0, none⟩ = some (.string t416) := (blk_cell BK420.out 0).trans rfl
                      have hcz73_1 : wc.cell? ⟨gb420, 1, none⟩ = some (.string t417) := (blk_cell BK420.out 1).trans rfl
                      have hcz73_2 : wc.cell? ⟨gb420, 2, none⟩ = some (.bool t418) := (blk_cell BK420.out 2).trans rfl
                      have hfz73_0 := blk_frozen BK420.out 0
                      have hfz73_1 := blk_frozen BK420.out 1
                      have hfz73_2 := blk_frozen BK420.out 2
                      go_wp2_with (first | ((with_reducible refine gate_callee (f := 28) rfl ?_); refine goesL_ (some 62) rfl rfl Tryd.func28 (by kernel_rfl) rfl #[.agg #[.string t416, .string t417, .bool t418], .string t414] rfl (by (try simp only [List.map_toArray, List.map_cons, List.map_nil]); first | done | rfl | (simp only [List.length_drop, List.length_take]; rfl)) ?_; (with_reducible refine (code_Has.calls t416 t417 t418 t414 t434 _ A40.out).mono ?_); rintro e w74 ⟨rfl, hb⟩; refine ⟨_, rfl, ?_⟩; have n0_ := Aside0.mk (blk_below (g := gb420) (o := .cells #[.string t416, .string t417, .bool t418] 32 (0, 0)) (by (with_reducible repeat (first | refine blk_drewN ?_ _ | refine blk_drew ?_ | refine blk_alloc ?_ _)); exact BK420.out) hb); have n1_ := Aside0.mk (blk_below (g := gb426) (o := .cells #[.string t422, .string t423, .bool t424] 32 (0, 0)) (by (with_reducible repeat (first | refine blk_drewN ?_ _ | refine blk_drew ?_ | refine blk_alloc ?_ _)); exact BK426.out) hb); have n2_ := Aside0.mk (blk_below (g := gb431) (o := .cells #[.string t427, .string t428, .bool t429] 32 (0, 0)) (by (with_reducible repeat (first | refine blk_drewN ?_ _ | refine blk_drew ?_ | refine blk_alloc ?_ _)); exact BK431.out) hb); have n3_ := Aside0.mk (below_step (by repeat (first | (with_reducible first | exact HB.out | apply below_alloc | apply pw_below_drewN | apply below_drew1 | refine below_set ?_ GE420.out | refine below_set ?_ GE426.out | refine below_set ?_ GE431.out) | exact HB.out)) hb); clear BK420; clear BK426; clear BK431; clear HB; have BK420 := n0_; have BK426 := n1_; have BK431 := n2_; have HB := n3_; clear n0_ n1_ n2_ n3_; (try clear hb); (try clear hb2); (try clear hk); (try clear hi)) | ((with_reducible refine gate_callee (f := 42) rfl ?_); refine goesL_ (some 65) rfl rfl Tryd.func42 (by kernel_rfl) rfl #[.slice A0 l0.length c0, .slice A1 l1.length c1] rfl (by (try simp only [List.map_toArray, List.map_cons, List.map_nil]); first | done | rfl | (simp only [List.length_drop, List.length_take]; rfl)) ?_; (with_reducible refine (vellumlaw02_begins.calls kj16 _ _ l0 _ _ l1 t435 _ ?side1 ?side2 ?side3 ?side4 A41.out).mono ?_); (case side1 => repeat (first | exact (Kd.C_below HR0.out HB.out) | (with_reducible refine Kd.C_alloc ?_ _) | (with_reducible refine Kd.C_drewN ?_ _) | (with_reducible refine Kd.C_drew ?_))); (case side2 => exact HC0.out); (case side3 => repeat (first | exact (Kd.C_below HR1.out HB.out) | (with_reducible refine Kd.C_alloc ?_ _) | (with_reducible refine Kd.C_drewN ?_ _) | (with_reducible refine Kd.C_drew ?_))); (case side4 => exact HC1.out); rintro e w75 ⟨rfl, hb⟩; refine ⟨_, rfl, ?_⟩; have n0_ := Aside0.mk (blk_below (g := gb420) (o := .cells #[.string t416, .string t417, .bool t418] 32 (0, 0)) (by (with_reducible repeat (first | refine blk_drewN ?_ _ | refine blk_drew ?_ | refine blk_alloc ?_ _)); exact BK420.out) hb); have n1_ := Aside0.mk (blk_below (g := gb426) (o := .cells #[.string t422, .string t423, .bool t424] 32 (0, 0)) (by (with_reducible repeat (first | refine blk_drewN ?_ _ | refine blk_drew ?_ | refine blk_alloc ?_ _)); exact BK426.out) hb); have n2_ := Aside0.mk (blk_below (g := gb431) (o := .cells #[.string t427, .string t428, .bool t429] 32 (0, 0)) (by (with_reducible repeat (first | refine blk_drewN ?_ _ | refine blk_drew ?_ | refine blk_alloc ?_ _)); exact BK431.out) hb); have n3_ := Aside0.mk (below_step (by repeat (first | (with_reducible first | exact HB.out | apply below_alloc | apply pw_below_drewN | apply below_drew1 | refine below_set ?_ GE420.out | refine below_set ?_ GE426.out | refine below_set ?_ GE431.out) | exact HB.out)) hb); clear BK420; clear BK426; clear BK431; clear HB; have BK420 := n0_; have BK426 := n1_; have BK431 := n2_; have HB := n3_; clear n0_ n1_ n2_ n3_; (try clear hb); (try clear hb2); (try clear hk); (try clear hi); have hnb76 := NB426_431.out; have hnc76 := NB431_426.out; have hcz77_0 : w75.cell? ⟨gb426, 0, none⟩ = some (.string t422) := (blk_cell BK426.out 0).trans rfl; have hcz77_1 : w75.cell? ⟨gb426, 1, none⟩ = some (.string t423) := (blk_cell BK426.out 1).trans rfl; have hcz77_2 : w75.cell? ⟨gb426, 2, none⟩ = some (.bool t424) := (blk_cell BK426.out 2).trans rfl; have hfz77_0 := blk_frozen BK426.out 0; have hfz77_1 := blk_frozen BK426.out 1; have hfz77_2 := blk_frozen BK426.out 2) | (go_at_call 28; (with_reducible refine (code_Has.calls t422 t423 t424 t414 t436 _ A43.out).mono ?_); rintro e w78 ⟨rfl, hb⟩; have n0_ := Aside0.mk (blk_below (g := gb420) (o := .cells #[.string t416, .string t417, .bool t418] 32 (0, 0)) (by (with_reducible repeat (first | refine blk_drewN ?_ _ | refine blk_drew ?_ | refine blk_alloc ?_ _)); exact BK420.out) hb); have n1_ := Aside0.mk (blk_below (g := gb426) (o := .cells #[.string t422, .string t423, .bool t424] 32 (0, 0)) (by (with_reducible repeat (first | refine blk_drewN ?_ _ | refine blk_drew ?_ | refine blk_alloc ?_ _)); exact BK426.out) hb); have n2_ := Aside0.mk (blk_below (g := gb431) (o := .cells #[.string t427, .string t428, .bool t429] 32 (0, 0)) (by (with_reducible repeat (first | refine blk_drewN ?_ _ | refine blk_drew ?_ | refine blk_alloc ?_ _)); exact BK431.out) hb); have n3_ := Aside0.mk (below_step (by repeat (first | (with_reducible first | exact HB.out | apply below_alloc | apply pw_below_drewN | apply below_drew1 | refine below_set ?_ GE420.out | refine below_set ?_ GE426.out | refine below_set ?_ GE431.out) | exact HB.out)) hb); clear BK420; clear BK426; clear BK431; clear HB; have BK420 := n0_; have BK426 := n1_; have BK431 := n2_; have HB := n3_; clear n0_ n1_ n2_ n3_; (try clear hb); (try clear hb2); (try clear hk); (try clear hi)) | (go_at_call 25; (with_reducible refine (vellumref02_Cmp.calls kj16 _ _ l1 _ _ l0 t437 _ ?side1 ?side2 ?side3 ?side4 A44.out).mono ?_); (case side1 => repeat (first | exact (Kd.C_below HR1.out HB.out) | (with_reducible refine Kd.C_alloc ?_ _) | (with_reducible refine Kd.C_drewN ?_ _) | (with_reducible refine Kd.C_drew ?_))); (case side2 => exact HC1.out); (case side3 => repeat (first | exact (Kd.C_below HR0.out HB.out) | (with_reducible refine Kd.C_alloc ?_ _) | (with_reducible refine Kd.C_drewN ?_ _) | (with_reducible refine Kd.C_drew ?_))); (case side4 => exact HC0.out); rintro e w79 ⟨rfl, hb⟩; have n0_ := Aside0.mk (blk_below (g := gb420) (o := .cells #[.string t416, .string t417, .bool t418] 32 (0, 0)) (by (with_reducible repeat (first | refine blk_drewN ?_ _ | refine blk_drew ?_ | refine blk_alloc ?_ _)); exact BK420.out) hb); have n1_ := Aside0.mk (blk_below (g := gb426) (o := .cells #[.string t422, .string t423, .bool t424] 32 (0, 0)) (by (with_reducible repeat (first | refine blk_drewN ?_ _ | refine blk_drew ?_ | refine blk_alloc ?_ _)); exact BK426.out) hb); have n2_ := Aside0.mk (blk_below (g := gb431) (o := .cells #[.string t427, .string t428, .bool t429] 32 (0, 0)) (by (with_reducible repeat (first | refine blk_drewN ?_ _ | refine blk_drew ?_ | refine blk_alloc ?_ _)); exact BK431.out) hb); have n3_ := Aside0.mk (below_step (by repeat (first | (with_reducible first | exact HB.out | apply below_alloc | apply pw_below_drewN | apply below_drew1 | refine below_set ?_ GE420.out | refine below_set ?_ GE426.out | refine below_set ?_ GE431.out) | exact HB.out)) hb); clear BK420; clear BK426; clear BK431; clear HB; have BK420 := n0_; have BK426 := n1_; have BK431 := n2_; have HB := n3_; clear n0_ n1_ n2_ n3_; (try clear hb); (try clear hb2); (try clear hk); (try clear hi)) | (go_at_call 42; (with_reducible refine (vellumlaw02_begins.calls kj16 _ _ l0 _ _ l1 t439 _ ?side1 ?side2 ?side3 ?side4 A68.out).mono ?_); (case side1 => repeat (first | exact (Kd.C_below HR0.out HB.out) | (with_reducible refine Kd.C_alloc ?_ _) | (with_reducible refine Kd.C_drewN ?_ _) | (with_reducible refine Kd.C_drew ?_))); (case side2 => exact HC0.out); (case side3 => repeat (first | exact (Kd.C_below HR1.out HB.out) | (with_reducible refine Kd.C_alloc ?_ _) | (with_reducible refine Kd.C_drewN ?_ _) | (with_reducible refine Kd.C_drew ?_))); (case side4 => exact HC1.out); rintro e w80 ⟨rfl, hb⟩; have n0_ := Aside0.mk (blk_below (g := gb420) (o := .cells #[.string t416, .string t417, .bool t418] 32 (0, 0)) (by (with_reducible repeat (first | refine blk_drewN ?_ _ | refine blk_drew ?_ | refine blk_alloc ?_ _)); exact BK420.out) hb); have n1_ := Aside0.mk (blk_below (g := gb426) (o := .cells #[.string t422, .string t423, .bool t424] 32 (0, 0)) (by (with_reducible repeat (first | refine blk_drewN ?_ _ | refine blk_drew ?_ | refine blk_alloc ?_ _)); exact BK426.out) hb); have n2_ := Aside0.mk (blk_below (g := gb431) (o := .cells #[.string t427, .string t428, .bool t429] 32 (0, 0)) (by (with_reducible repeat (first | refine blk_drewN ?_ _ | refine blk_drew ?_ | refine blk_alloc ?_ _)); exact BK431.out) hb); have n3_ := Aside0.mk (below_step (by repeat (first | (with_reducible first | exact HB.out | apply below_alloc | apply pw_below_drewN | apply below_drew1 | refine below_set ?_ GE420.out | refine below_set ?_ GE426.out | refine below_set ?_ GE431.out) | exact HB.out)) hb); clear BK420; clear BK426; clear BK431; clear HB; have BK420 := n0_; have BK426 := n1_; have BK431 := n2_; have HB := n3_; clear n0_ n1_ n2_ n3_; (try clear hb); (try clear hb2); (try clear hk); (try clear hi)) | (go_at_call 23; (with_reducible refine (vellumlaw02_awake.calls kj16  t440 _ ?side1 A70.out).mono ?_); (case side1 => exact Glob.below HG.out (by repeat (first | (with_reducible first | exact HB.out | apply below_alloc | apply pw_below_drewN | apply below_drew1 | refine below_set ?_ GE420.out | refine below_set ?_ GE426.out | refine below_set ?_ GE431.out) | exact HB.out))); rintro e w81 ⟨rfl, hb⟩; have n0_ := Aside0.mk (blk_below (g := gb420) (o := .cells #[.string t416, .string t417, .bool t418] 32 (0, 0)) (by (with_reducible repeat (first | refine blk_drewN ?_ _ | refine blk_drew ?_ | refine blk_alloc ?_ _)); exact BK420.out) hb); have n1_ := Aside0.mk (blk_below (g := gb426) (o := .cells #[.string t422, .string t423, .bool t424] 32 (0, 0)) (by (with_reducible repeat (first | refine blk_drewN ?_ _ | refine blk_drew ?_ | refine blk_alloc ?_ _)); exact BK426.out) hb); have n2_ := Aside0.mk (blk_below (g := gb431) (o := .cells #[.string t427, .string t428, .bool t429] 32 (0, 0)) (by (with_reducible repeat (first | refine blk_drewN ?_ _ | refine blk_drew ?_ | refine blk_alloc ?_ _)); exact BK431.out) hb); have n3_ := Aside0.mk (below_step (by repeat (first | (with_reducible first | exact HB.out | apply below_alloc | apply pw_below_drewN | apply below_drew1 | refine below_set ?_ GE420.out | refine below_set ?_ GE426.out | refine below_set ?_ GE431.out) | exact HB.out)) hb); clear BK420; clear BK426; clear BK431; clear HB; have BK420 := n0_; have BK426 := n1_; have BK431 := n2_; have HB := n3_; clear n0_ n1_ n2_ n3_; (try clear hb); (try clear hb2); (try clear hk); (try clear hi)))
                      go_ret
                      exact ⟨by first | rfl | (simp [errW_none, errW_some] <;> rfl) | (simp [*, errW_none, errW_some] <;> rfl), by repeat (first | (with_reducible first | exact HB.out | apply below_alloc | apply pw_below_drewN | apply below_drew1 | refine below_set ?_ GE420.out | refine below_set ?_ GE426.out | refine below_set ?_ GE431.out) | exact HB.out)⟩
                    · rw [if_neg c69] at H
                      have c69b0 : (t436 == (!t439)) = false := by simpa using c69
                      (try (have c69b1 : decide (t436 = (!t439)) = false := by simpa using c69))
                      (try (have c69b2 : (t436 == (!t439)) = false := by simpa using c69))
                      (try (have c69b3 : ¬ (t436 = (!t439)) := by simpa using c69))
                      clear c69
                      obtain rfl := Option.some.inj H
                      have hnb82 := NB420_426.out
                      have hnc82 := NB426_420.out
                      have hnb83 := NB420_431.out
                      have hnc83 := NB431_420.out
                      have hcz84_0 : wc.cell? ⟨gb420, 0, none⟩ = some (.string t416) := (blk_cell BK420.out 0).trans rfl
                      have hcz84_1 : wc.cell? ⟨gb420, 1, none⟩ = some (.string t417) := (blk_cell BK420.out 1).trans rfl
                      have hcz84_2 : wc.cell? ⟨gb420, 2, none⟩ = some (.bool t418) := (blk_cell BK420.out 2).trans rfl
                      have hfz84_0 := blk_frozen BK420.out 0
                      have hfz84_1 := blk_frozen BK420.out 1
                      have hfz84_2 := blk_frozen BK420.out 2
                      go_wp2_with (first | ((with_reducible refine gate_callee (f := 28) rfl ?_); refine goesL_ (some 62) rfl rfl Tryd.func28 (by kernel_rfl) rfl #[.agg #[.string t416, .string t417, .bool t418], .string t414] rfl (by (try simp only [List.map_toArray, List.map_cons, List.map_nil]); first | done | rfl | (simp only [List.length_drop, List.length_take]; rfl)) ?_; (with_reducible refine (code_Has.calls t416 t417 t418 t414 t434 _ A40.out).mono ?_); rintro e w85 ⟨rfl, hb⟩; refine ⟨_, rfl, ?_⟩; have n0_ := Aside0.mk (blk_below (g := gb420) (o := .cells #[.string t416, .string t417, .bool t418] 32 (0, 0)) (by (with_reducible repeat (first | refine blk_drewN ?_ _ | refine blk_drew ?_ | refine blk_alloc ?_ _)); exact BK420.out) hb); have n1_ := Aside0.mk (blk_below (g := gb426) (o := .cells #[.string t422, .string t423, .bool t424] 32 (0, 0)) (by (with_reducible repeat (first | refine blk_drewN ?_ _ | refine blk_drew ?_ | refine blk_alloc ?_ _)); exact BK426.out) hb); have n2_ := Aside0.mk (blk_below (g := gb431) (o := .cells #[.string t427, .string t428, .bool t429] 32 (0, 0)) (by (with_reducible repeat (first | refine blk_drewN ?_ _ | refine blk_drew ?_ | refine blk_alloc ?_ _)); exact BK431.out) hb); have n3_ := Aside0.mk (below_step (by repeat (first | (with_reducible first | exact HB.out | apply below_alloc | apply pw_below_drewN | apply below_drew1 | refine below_set ?_ GE420.out | refine below_set ?_ GE426.out | refine below_set ?_ GE431.out) | exact HB.out)) hb); clear BK420; clear BK426; clear BK431; clear HB; have BK420 := n0_; have BK426 := n1_; have BK431 := n2_; have HB := n3_; clear n0_ n1_ n2_ n3_; (try clear hb); (try clear hb2); (try clear hk); (try clear hi)) | ((with_reducible refine gate_callee (f := 42) rfl ?_); refine goesL_ (some 65) rfl rfl Tryd.func42 (by kernel_rfl) rfl #[.slice A0 l0.length c0, .slice A1 l1.length c1] rfl (by (try simp only [List.map_toArray, List.map_cons, List.map_nil]); first | done | rfl | (simp only [List.length_drop, List.length_take]; rfl)) ?_; (with_reducible refine (vellumlaw02_begins.calls kj16 _ _ l0 _ _ l1 t435 _ ?side1 ?side2 ?side3 ?side4 A41.out).mono ?_); (case side1 => repeat (first | exact (Kd.C_below HR0.out HB.out) | (with_reducible refine Kd.C_alloc ?_ _) | (with_reducible refine Kd.C_drewN ?_ _) | (with_reducible refine Kd.C_drew ?_))); (case side2 => exact HC0.out); (case side3 => repeat (first | exact (Kd.C_below HR1.out HB.out) | (with_reducible refine Kd.C_alloc ?_ _) | (with_reducible refine Kd.C_drewN ?_ _) | (with_reducible refine Kd.C_drew ?_))); (case side4 => exact HC1.out); rintro e w86 ⟨rfl, hb⟩; refine ⟨_, rfl, ?_⟩; have n0_ := Aside0.mk (blk_below (g := gb420) (o := .cells #[.string t416, .string t417, .bool t418] 32 (0, 0)) (by (with_reducible repeat (first | refine blk_drewN ?_ _ | refine blk_drew ?_ | refine blk_alloc ?_ _)); exact BK420.out) hb); have n1_ := Aside0.mk (blk_below (g := gb426) (o := .cells #[.string t422, .string t423, .bool t424] 32 (0, 0)) (by (with_reducible repeat (first | refine blk_drewN ?_ _ | refine blk_drew ?_ | refine blk_alloc ?_ _)); exact BK426.out) hb); have n2_ := Aside0.mk (blk_below (g := gb431) (o := .cells #[.string t427, .string t428, .bool t429] 32 (0, 0)) (by (with_reducible repeat (first | refine blk_drewN ?_ _ | refine blk_drew ?_ | refine blk_alloc ?_ _)); exact BK431.out) hb); have n3_ := Aside0.mk (below_step (by repeat (first | (with_reducible first | exact HB.out | apply below_alloc | apply pw_below_drewN | apply below_drew1 | refine below_set ?_ GE420.out | refine below_set ?_ GE426.out | refine below_set ?_ GE431.out) | exact HB.out)) hb); clear BK420; clear BK426; clear BK431; clear HB; have BK420 := n0_; have BK426 := n1_; have BK431 := n2_; have HB := n3_; clear n0_ n1_ n2_ n3_; (try clear hb); (try clear hb2); (try clear hk); (try clear hi); have hnb87 := NB426_431.out; have hnc87 := NB431_426.out; have hcz88_0 : w86.cell? ⟨gb426, 0, none⟩ = some (.string t422) := (blk_cell BK426.out 0).trans rfl; have hcz88_1 : w86.cell? ⟨gb426, 1, none⟩ = some (.string t423) := (blk_cell BK426.out 1).trans rfl; have hcz88_2 : w86.cell? ⟨gb426, 2, none⟩ = some (.bool t424) := (blk_cell BK426.out 2).trans rfl; have hfz88_0 := blk_frozen BK426.out 0; have hfz88_1 := blk_frozen BK426.out 1; have hfz88_2 := blk_frozen BK426.out 2) | (go_at_call 28; (with_reducible refine (code_Has.calls t422 t423 t424 t414 t436 _ A43.out).mono ?_); rintro e w89 ⟨rfl, hb⟩; have n0_ := Aside0.mk (blk_below (g := gb420) (o := .cells #[.string t416, .string t417, .bool t418] 32 (0, 0)) (by (with_reducible repeat (first | refine blk_drewN ?_ _ | refine blk_drew ?_ | refine blk_alloc ?_ _)); exact BK420.out) hb); have n1_ := Aside0.mk (blk_below (g := gb426) (o := .cells #[.string t422, .string t423, .bool t424] 32 (0, 0)) (by (with_reducible repeat (first | refine blk_drewN ?_ _ | refine blk_drew ?_ | refine blk_alloc ?_ _)); exact BK426.out) hb); have n2_ := Aside0.mk (blk_below (g := gb431) (o := .cells #[.string t427, .string t428, .bool t429] 32 (0, 0)) (by (with_reducible repeat (first | refine blk_drewN ?_ _ | refine blk_drew ?_ | refine blk_alloc ?_ _)); exact BK431.out) hb); have n3_ := Aside0.mk (below_step (by repeat (first | (with_reducible first | exact HB.out | apply below_alloc | apply pw_below_drewN | apply below_drew1 | refine below_set ?_ GE420.out | refine below_set ?_ GE426.out | refine below_set ?_ GE431.out) | exact HB.out)) hb); clear BK420; clear BK426; clear BK431; clear HB; have BK420 := n0_; have BK426 := n1_; have BK431 := n2_; have HB := n3_; clear n0_ n1_ n2_ n3_; (try clear hb); (try clear hb2); (try clear hk); (try clear hi)) | (go_at_call 25; (with_reducible refine (vellumref02_Cmp.calls kj16 _ _ l1 _ _ l0 t437 _ ?side1 ?side2 ?side3 ?side4 A44.out).mono ?_); (case side1 => repeat (first | exact (Kd.C_below HR1.out HB.out) | (with_reducible refine Kd.C_alloc ?_ _) | (with_reducible refine Kd.C_drewN ?_ _) | (with_reducible refine Kd.C_drew ?_))); (case side2 => exact HC1.out); (case side3 => repeat (first | exact (Kd.C_below HR0.out HB.out) | (with_reducible refine Kd.C_alloc ?_ _) | (with_reducible refine Kd.C_drewN ?_ _) | (with_reducible refine Kd.C_drew ?_))); (case side4 => exact HC0.out); rintro e w90 ⟨rfl, hb⟩; have n0_ := Aside0.mk (blk_below (g := gb420) (o := .cells #[.string t416, .string t417, .bool t418] 32 (0, 0)) (by (with_reducible repeat (first | refine blk_drewN ?_ _ | refine blk_drew ?_ | refine blk_alloc ?_ _)); exact BK420.out) hb); have n1_ := Aside0.mk (blk_below (g := gb426) (o := .cells #[.string t422, .string t423, .bool t424] 32 (0, 0)) (by (with_reducible repeat (first | refine blk_drewN ?_ _ | refine blk_drew ?_ | refine blk_alloc ?_ _)); exact BK426.out) hb); have n2_ := Aside0.mk (blk_below (g := gb431) (o := .cells #[.string t427, .string t428, .bool t429] 32 (0, 0)) (by (with_reducible repeat (first | refine blk_drewN ?_ _ | refine blk_drew ?_ | refine blk_alloc ?_ _)); exact BK431.out) hb); have n3_ := Aside0.mk (below_step (by repeat (first | (with_reducible first | exact HB.out | apply below_alloc | apply pw_below_drewN | apply below_drew1 | refine below_set ?_ GE420.out | refine below_set ?_ GE426.out | refine below_set ?_ GE431.out) | exact HB.out)) hb); clear BK420; clear BK426; clear BK431; clear HB; have BK420 := n0_; have BK426 := n1_; have BK431 := n2_; have HB := n3_; clear n0_ n1_ n2_ n3_; (try clear hb); (try clear hb2); (try clear hk); (try clear hi)) | (go_at_call 42; (with_reducible refine (vellumlaw02_begins.calls kj16 _ _ l0 _ _ l1 t439 _ ?side1 ?side2 ?side3 ?side4 A68.out).mono ?_); (case side1 => repeat (first | exact (Kd.C_below HR0.out HB.out) | (with_reducible refine Kd.C_alloc ?_ _) | (with_reducible refine Kd.C_drewN ?_ _) | (with_reducible refine Kd.C_drew ?_))); (case side2 => exact HC0.out); (case side3 => repeat (first | exact (Kd.C_below HR1.out HB.out) | (with_reducible refine Kd.C_alloc ?_ _) | (with_reducible refine Kd.C_drewN ?_ _) | (with_reducible refine Kd.C_drew ?_))); (case side4 => exact HC1.out); rintro e w91 ⟨rfl, hb⟩; have n0_ := Aside0.mk (blk_below (g := gb420) (o := .cells #[.string t416, .string t417, .bool t418] 32 (0, 0)) (by (with_reducible repeat (first | refine blk_drewN ?_ _ | refine blk_drew ?_ | refine blk_alloc ?_ _)); exact BK420.out) hb); have n1_ := Aside0.mk (blk_below (g := gb426) (o := .cells #[.string t422, .string t423, .bool t424] 32 (0, 0)) (by (with_reducible repeat (first | refine blk_drewN ?_ _ | refine blk_drew ?_ | refine blk_alloc ?_ _)); exact BK426.out) hb); have n2_ := Aside0.mk (blk_below (g := gb431) (o := .cells #[.string t427, .string t428, .bool t429] 32 (0, 0)) (by (with_reducible repeat (first | refine blk_drewN ?_ _ | refine blk_drew ?_ | refine blk_alloc ?_ _)); exact BK431.out) hb); have n3_ := Aside0.mk (below_step (by repeat (first | (with_reducible first | exact HB.out | apply below_alloc | apply pw_below_drewN | apply below_drew1 | refine below_set ?_ GE420.out | refine below_set ?_ GE426.out | refine below_set ?_ GE431.out) | exact HB.out)) hb); clear BK420; clear BK426; clear BK431; clear HB; have BK420 := n0_; have BK426 := n1_; have BK431 := n2_; have HB := n3_; clear n0_ n1_ n2_ n3_; (try clear hb); (try clear hb2); (try clear hk); (try clear hi)))
                      go_ret
                      exact ⟨by first | rfl | (simp [errW_none, errW_some] <;> rfl) | (simp [*, errW_none, errW_some] <;> rfl), by repeat (first | (with_reducible first | exact HB.out | apply below_alloc | apply pw_below_drewN | apply below_drew1 | refine below_set ?_ GE420.out | refine below_set ?_ GE426.out | refine below_set ?_ GE431.out) | exact HB.out)⟩
                · rw [if_neg c45] at H
                  have c45b0 : decide (0 ≤ t437) = false := decide_eq_false c45
                  clear c45
                  by_cases c92 : (t436 == false) = true
                  · rw [if_pos c92] at H
                    have c92b0 : (t436 == false) = true := c92
                    (try (have c92b1 : decide (t436 = false) = true := by simpa using c92))
                    (try (have c92b2 : (t436 == false) = true := by simpa using c92))
                    clear c92
                    replace H := Option.bind_eq_some_iff.mp H
                    obtain ⟨t441, A930, H⟩ := H
                    replace H : (some t441) = some r := H
                    have A93 := Aside0.mk A930
                    clear A930
                    obtain rfl := Option.some.inj H
                    have hnb94 := NB420_426.out
                    have hnc94 := NB426_420.out
                    have hnb95 := NB420_431.out
                    have hnc95 := NB431_420.out
                    have hcz96_0 : wc.cell? ⟨gb420, 0, none⟩ = some (.string t416) := (blk_cell BK420.out 0).trans rfl
                    have hcz96_1 : wc.cell? ⟨gb420, 1, none⟩ = some (.string t417) := (blk_cell BK420.out 1).trans rfl
                    have hcz96_2 : wc.cell? ⟨gb420, 2, none⟩ = some (.bool t418) := (blk_cell BK420.out 2).trans rfl
                    have hfz96_0 := blk_frozen BK420.out 0
                    have hfz96_1 := blk_frozen BK420.out 1
                    have hfz96_2 := blk_frozen BK420.out 2
                    go_wp2_with (first | ((with_reducible refine gate_callee (f := 28) rfl ?_); refine goesL_ (some 62) rfl rfl Tryd.func28 (by kernel_rfl) rfl #[.agg #[.string t416, .string t417, .bool t418], .string t414] rfl (by (try simp only [List.map_toArray, List.map_cons, List.map_nil]); first | done | rfl | (simp only [List.length_drop, List.length_take]; rfl)) ?_; (with_reducible refine (code_Has.calls t416 t417 t418 t414 t434 _ A40.out).mono ?_); rintro e w97 ⟨rfl, hb⟩; refine ⟨_, rfl, ?_⟩; have n0_ := Aside0.mk (blk_below (g := gb420) (o := .cells #[.string t416, .string t417, .bool t418] 32 (0, 0)) (by (with_reducible repeat (first | refine blk_drewN ?_ _ | refine blk_drew ?_ | refine blk_alloc ?_ _)); exact BK420.out) hb); have n1_ := Aside0.mk (blk_below (g := gb426) (o := .cells #[.string t422, .string t423, .bool t424] 32 (0, 0)) (by (with_reducible repeat (first | refine blk_drewN ?_ _ | refine blk_drew ?_ | refine blk_alloc ?_ _)); exact BK426.out) hb); have n2_ := Aside0.mk (blk_below (g := gb431) (o := .cells #[.string t427, .string t428, .bool t429] 32 (0, 0)) (by (with_reducible repeat (first | refine blk_drewN ?_ _ | refine blk_drew ?_ | refine blk_alloc ?_ _)); exact BK431.out) hb); have n3_ := Aside0.mk (below_step (by repeat (first | (with_reducible first | exact HB.out | apply below_alloc | apply pw_below_drewN | apply below_drew1 | refine below_set ?_ GE420.out | refine below_set ?_ GE426.out | refine below_set ?_ GE431.out) | exact HB.out)) hb); clear BK420; clear BK426; clear BK431; clear HB; have BK420 := n0_; have BK426 := n1_; have BK431 := n2_; have HB := n3_; clear n0_ n1_ n2_ n3_; (try clear hb); (try clear hb2); (try clear hk); (try clear hi)) | ((with_reducible refine gate_callee (f := 42) rfl ?_); refine goesL_ (some 65) rfl rfl Tryd.func42 (by kernel_rfl) rfl #[.slice A0 l0.length c0, .slice A1 l1.length c1] rfl (by (try simp only [List.map_toArray, List.map_cons, List.map_nil]); first | done | rfl | (simp only [List.length_drop, List.length_take]; rfl)) ?_; (with_reducible refine (vellumlaw02_begins.calls kj16 _ _ l0 _ _ l1 t435 _ ?side1 ?side2 ?side3 ?side4 A41.out).mono ?_); (case side1 => repeat (first | exact (Kd.C_below HR0.out HB.out) | (with_reducible refine Kd.C_alloc ?_ _) | (with_reducible refine Kd.C_drewN ?_ _) | (with_reducible refine Kd.C_drew ?_))); (case side2 => exact HC0.out); (case side3 => repeat (first | exact (Kd.C_below HR1.out HB.out) | (with_reducible refine Kd.C_alloc ?_ _) | (with_reducible refine Kd.C_drewN ?_ _) | (with_reducible refine Kd.C_drew ?_))); (case side4 => exact HC1.out); rintro e w98 ⟨rfl, hb⟩; refine ⟨_, rfl, ?_⟩; have n0_ := Aside0.mk (blk_below (g := gb420) (o := .cells #[.string t416, .string t417, .bool t418] 32 (0, 0)) (by (with_reducible repeat (first | refine blk_drewN ?_ _ | refine blk_drew ?_ | refine blk_alloc ?_ _)); exact BK420.out) hb); have n1_ := Aside0.mk (blk_below (g := gb426) (o := .cells #[.string t422, .string t423, .bool t424] 32 (0, 0)) (by (with_reducible repeat (first | refine blk_drewN ?_ _ | refine blk_drew ?_ | refine blk_alloc ?_ _)); exact BK426.out) hb); have n2_ := Aside0.mk (blk_below (g := gb431) (o := .cells #[.string t427, .string t428, .bool t429] 32 (0, 0)) (by (with_reducible repeat (first | refine blk_drewN ?_ _ | refine blk_drew ?_ | refine blk_alloc ?_ _)); exact BK431.out) hb); have n3_ := Aside0.mk (below_step (by repeat (first | (with_reducible first | exact HB.out | apply below_alloc | apply pw_below_drewN | apply below_drew1 | refine below_set ?_ GE420.out | refine below_set ?_ GE426.out | refine below_set ?_ GE431.out) | exact HB.out)) hb); clear BK420; clear BK426; clear BK431; clear HB; have BK420 := n0_; have BK426 := n1_; have BK431 := n2_; have HB := n3_; clear n0_ n1_ n2_ n3_; (try clear hb); (try clear hb2); (try clear hk); (try clear hi); have hnb99 := NB426_431.out; have hnc99 := NB431_426.out; have hcz100_0 : w98.cell? ⟨gb426, 0, none⟩ = some (.string t422) := (blk_cell BK426.out 0).trans rfl; have hcz100_1 : w98.cell? ⟨gb426, 1, none⟩ = some (.string t423) := (blk_cell BK426.out 1).trans rfl; have hcz100_2 : w98.cell? ⟨gb426, 2, none⟩ = some (.bool t424) := (blk_cell BK426.out 2).trans rfl; have hfz100_0 := blk_frozen BK426.out 0; have hfz100_1 := blk_frozen BK426.out 1; have hfz100_2 := blk_frozen BK426.out 2) | (go_at_call 28; (with_reducible refine (code_Has.calls t422 t423 t424 t414 t436 _ A43.out).mono ?_); rintro e w101 ⟨rfl, hb⟩; have n0_ := Aside0.mk (blk_below (g := gb420) (o := .cells #[.string t416, .string t417, .bool t418] 32 (0, 0)) (by (with_reducible repeat (first | refine blk_drewN ?_ _ | refine blk_drew ?_ | refine blk_alloc ?_ _)); exact BK420.out) hb); have n1_ := Aside0.mk (blk_below (g := gb426) (o := .cells #[.string t422, .string t423, .bool t424] 32 (0, 0)) (by (with_reducible repeat (first | refine blk_drewN ?_ _ | refine blk_drew ?_ | refine blk_alloc ?_ _)); exact BK426.out) hb); have n2_ := Aside0.mk (blk_below (g := gb431) (o := .cells #[.string t427, .string t428, .bool t429] 32 (0, 0)) (by (with_reducible repeat (first | refine blk_drewN ?_ _ | refine blk_drew ?_ | refine blk_alloc ?_ _)); exact BK431.out) hb); have n3_ := Aside0.mk (below_step (by repeat (first | (with_reducible first | exact HB.out | apply below_alloc | apply pw_below_drewN | apply below_drew1 | refine below_set ?_ GE420.out | refine below_set ?_ GE426.out | refine below_set ?_ GE431.out) | exact HB.out)) hb); clear BK420; clear BK426; clear BK431; clear HB; have BK420 := n0_; have BK426 := n1_; have BK431 := n2_; have HB := n3_; clear n0_ n1_ n2_ n3_; (try clear hb); (try clear hb2); (try clear hk); (try clear hi)) | (go_at_call 25; (with_reducible refine (vellumref02_Cmp.calls kj16 _ _ l1 _ _ l0 t437 _ ?side1 ?side2 ?side3 ?side4 A44.out).mono ?_); (case side1 => repeat (first | exact (Kd.C_below HR1.out HB.out) | (with_reducible refine Kd.C_alloc ?_ _) | (with_reducible refine Kd.C_drewN ?_ _) | (with_reducible refine Kd.C_drew ?_))); (case side2 => exact HC1.out); (case side3 => repeat (first | exact (Kd.C_below HR0.out HB.out) | (with_reducible refine Kd.C_alloc ?_ _) | (with_reducible refine Kd.C_drewN ?_ _) | (with_reducible refine Kd.C_drew ?_))); (case side4 => exact HC0.out); rintro e w102 ⟨rfl, hb⟩; have n0_ := Aside0.mk (blk_below (g := gb420) (o := .cells #[.string t416, .string t417, .bool t418] 32 (0, 0)) (by (with_reducible repeat (first | refine blk_drewN ?_ _ | refine blk_drew ?_ | refine blk_alloc ?_ _)); exact BK420.out) hb); have n1_ := Aside0.mk (blk_below (g := gb426) (o := .cells #[.string t422, .string t423, .bool t424] 32 (0, 0)) (by (with_reducible repeat (first | refine blk_drewN ?_ _ | refine blk_drew ?_ | refine blk_alloc ?_ _)); exact BK426.out) hb); have n2_ := Aside0.mk (blk_below (g := gb431) (o := .cells #[.string t427, .string t428, .bool t429] 32 (0, 0)) (by (with_reducible repeat (first | refine blk_drewN ?_ _ | refine blk_drew ?_ | refine blk_alloc ?_ _)); exact BK431.out) hb); have n3_ := Aside0.mk (below_step (by repeat (first | (with_reducible first | exact HB.out | apply below_alloc | apply pw_below_drewN | apply below_drew1 | refine below_set ?_ GE420.out | refine below_set ?_ GE426.out | refine below_set ?_ GE431.out) | exact HB.out)) hb); clear BK420; clear BK426; clear BK431; clear HB; have BK420 := n0_; have BK426 := n1_; have BK431 := n2_; have HB := n3_; clear n0_ n1_ n2_ n3_; (try clear hb); (try clear hb2); (try clear hk); (try clear hi)) | (go_at_call 23; (with_reducible refine (vellumlaw02_awake.calls kj16  t441 _ ?side1 A93.out).mono ?_); (case side1 => exact Glob.below HG.out (by repeat (first | (with_reducible first | exact HB.out | apply below_alloc | apply pw_below_drewN | apply below_drew1 | refine below_set ?_ GE420.out | refine below_set ?_ GE426.out | refine below_set ?_ GE431.out) | exact HB.out))); rintro e w103 ⟨rfl, hb⟩; have n0_ := Aside0.mk (blk_below (g := gb420) (o := .cells #[.string t416, .string t417, .bool t418] 32 (0, 0)) (by (with_reducible repeat (first | refine blk_drewN ?_ _ | refine blk_drew ?_ | refine blk_alloc ?_ _)); exact BK420.out) hb); have n1_ := Aside0.mk (blk_below (g := gb426) (o := .cells #[.string t422, .string t423, .bool t424] 32 (0, 0)) (by (with_reducible repeat (first | refine blk_drewN ?_ _ | refine blk_drew ?_ | refine blk_alloc ?_ _)); exact BK426.out) hb); have n2_ := Aside0.mk (blk_below (g := gb431) (o := .cells #[.string t427, .string t428, .bool t429] 32 (0, 0)) (by (with_reducible repeat (first | refine blk_drewN ?_ _ | refine blk_drew ?_ | refine blk_alloc ?_ _)); exact BK431.out) hb); have n3_ := Aside0.mk (below_step (by repeat (first | (with_reducible first | exact HB.out | apply below_alloc | apply pw_below_drewN | apply below_drew1 | refine below_set ?_ GE420.out | refine below_set ?_ GE426.out | refine below_set ?_ GE431.out) | exact HB.out)) hb); clear BK420; clear BK426; clear BK431; clear HB; have BK420 := n0_; have BK426 := n1_; have BK431 := n2_; have HB := n3_; clear n0_ n1_ n2_ n3_; (try clear hb); (try clear hb2); (try clear hk); (try clear hi)))
                    go_ret
                    exact ⟨by first | rfl | (simp [errW_none, errW_some] <;> rfl) | (simp [*, errW_none, errW_some] <;> rfl), by repeat (first | (with_reducible first | exact HB.out | apply below_alloc | apply pw_below_drewN | apply below_drew1 | refine below_set ?_ GE420.out | refine below_set ?_ GE426.out | refine below_set ?_ GE431.out) | exact HB.out)⟩
                  · rw [if_neg c92] at H
                    have c92b0 : (t436 == false) = false := by simpa using c92
                    (try (have c92b1 : decide (t436 = false) = false := by simpa using c92))
                    (try (have c92b2 : (t436 == false) = false := by simpa using c92))
                    (try (have c92b3 : ¬ (t436 = false) := by simpa using c92))
                    clear c92
                    obtain rfl := Option.some.inj H
                    have hnb104 := NB420_426.out
                    have hnc104 := NB426_420.out
                    have hnb105 := NB420_431.out
                    have hnc105 := NB431_420.out
                    have hcz106_0 : wc.cell? ⟨gb420, 0, none⟩ = some (.string t416) := (blk_cell BK420.out 0).trans rfl
                    have hcz106_1 : wc.cell? ⟨gb420, 1, none⟩ = some (.string t417) := (blk_cell BK420.out 1).trans rfl
                    have hcz106_2 : wc.cell? ⟨gb420, 2, none⟩ = some (.bool t418) := (blk_cell BK420.out 2).trans rfl
                    have hfz106_0 := blk_frozen BK420.out 0
                    have hfz106_1 := blk_frozen BK420.out 1
                    have hfz106_2 := blk_frozen BK420.out 2
                    go_wp2_with (first | ((with_reducible refine gate_callee (f := 28) rfl ?_); refine goesL_ (some 62) rfl rfl Tryd.func28 (by kernel_rfl) rfl #[.agg #[.string t416, .string t417, .bool t418], .string t414] rfl (by (try simp only [List.map_toArray, List.map_cons, List.map_nil]); first | done | rfl | (simp only [List.length_drop, List.length_take]; rfl)) ?_; (with_reducible refine (code_Has.calls t416 t417 t418 t414 t434 _ A40.out).mono ?_); rintro e w107 ⟨rfl, hb⟩; refine ⟨_, rfl, ?_⟩; have n0_ := Aside0.mk (blk_below (g := gb420) (o := .cells #[.string t416, .string t417, .bool t418] 32 (0, 0)) (by (with_reducible repeat (first | refine blk_drewN ?_ _ | refine blk_drew ?_ | refine blk_alloc ?_ _)); exact BK420.out) hb); have n1_ := Aside0.mk (blk_below (g := gb426) (o := .cells #[.string t422, .string t423, .bool t424] 32 (0, 0)) (by (with_reducible repeat (first | refine blk_drewN ?_ _ | refine blk_drew ?_ | refine blk_alloc ?_ _)); exact BK426.out) hb); have n2_ := Aside0.mk (blk_below (g := gb431) (o := .cells #[.string t427, .string t428, .bool t429] 32 (0, 0)) (by (with_reducible repeat (first | refine blk_drewN ?_ _ | refine blk_drew ?_ | refine blk_alloc ?_ _)); exact BK431.out) hb); have n3_ := Aside0.mk (below_step (by repeat (first | (with_reducible first | exact HB.out | apply below_alloc | apply pw_below_drewN | apply below_drew1 | refine below_set ?_ GE420.out | refine below_set ?_ GE426.out | refine below_set ?_ GE431.out) | exact HB.out)) hb); clear BK420; clear BK426; clear BK431; clear HB; have BK420 := n0_; have BK426 := n1_; have BK431 := n2_; have HB := n3_; clear n0_ n1_ n2_ n3_; (try clear hb); (try clear hb2); (try clear hk); (try clear hi)) | ((with_reducible refine gate_callee (f := 42) rfl ?_); refine goesL_ (some 65) rfl rfl Tryd.func42 (by kernel_rfl) rfl #[.slice A0 l0.length c0, .slice A1 l1.length c1] rfl (by (try simp only [List.map_toArray, List.map_cons, List.map_nil]); first | done | rfl | (simp only [List.length_drop, List.length_take]; rfl)) ?_; (with_reducible refine (vellumlaw02_begins.calls kj16 _ _ l0 _ _ l1 t435 _ ?side1 ?side2 ?side3 ?side4 A41.out).mono ?_); (case side1 => repeat (first | exact (Kd.C_below HR0.out HB.out) | (with_reducible refine Kd.C_alloc ?_ _) | (with_reducible refine Kd.C_drewN ?_ _) | (with_reducible refine Kd.C_drew ?_))); (case side2 => exact HC0.out); (case side3 => repeat (first | exact (Kd.C_below HR1.out HB.out) | (with_reducible refine Kd.C_alloc ?_ _) | (with_reducible refine Kd.C_drewN ?_ _) | (with_reducible refine Kd.C_drew ?_))); (case side4 => exact HC1.out); rintro e w108 ⟨rfl, hb⟩; refine ⟨_, rfl, ?_⟩; have n0_ := Aside0.mk (blk_below (g := gb420) (o := .cells #[.string t416, .string t417, .bool t418] 32 (0, 0)) (by (with_reducible repeat (first | refine blk_drewN ?_ _ | refine blk_drew ?_ | refine blk_alloc ?_ _)); exact BK420.out) hb); have n1_ := Aside0.mk (blk_below (g := gb426) (o := .cells #[.string t422, .string t423, .bool t424] 32 (0, 0)) (by (with_reducible repeat (first | refine blk_drewN ?_ _ | refine blk_drew ?_ | refine blk_alloc ?_ _)); exact BK426.out) hb); have n2_ := Aside0.mk (blk_below (g := gb431) (o := .cells #[.string t427, .string t428, .bool t429] 32 (0, 0)) (by (with_reducible repeat (first | refine blk_drewN ?_ _ | refine blk_drew ?_ | refine blk_alloc ?_ _)); exact BK431.out) hb); have n3_ := Aside0.mk (below_step (by repeat (first | (with_reducible first | exact HB.out | apply below_alloc | apply pw_below_drewN | apply below_drew1 | refine below_set ?_ GE420.out | refine below_set ?_ GE426.out | refine below_set ?_ GE431.out) | exact HB.out)) hb); clear BK420; clear BK426; clear BK431; clear HB; have BK420 := n0_; have BK426 := n1_; have BK431 := n2_; have HB := n3_; clear n0_ n1_ n2_ n3_; (try clear hb); (try clear hb2); (try clear hk); (try clear hi); have hnb109 := NB426_431.out; have hnc109 := NB431_426.out; have hcz110_0 : w108.cell? ⟨gb426, 0, none⟩ = some (.string t422) := (blk_cell BK426.out 0).trans rfl; have hcz110_1 : w108.cell? ⟨gb426, 1, none⟩ = some (.string t423) := (blk_cell BK426.out 1).trans rfl; have hcz110_2 : w108.cell? ⟨gb426, 2, none⟩ = some (.bool t424) := (blk_cell BK426.out 2).trans rfl; have hfz110_0 := blk_frozen BK426.out 0; have hfz110_1 := blk_frozen BK426.out 1; have hfz110_2 := blk_frozen BK426.out 2) | (go_at_call 28; (with_reducible refine (code_Has.calls t422 t423 t424 t414 t436 _ A43.out).mono ?_); rintro e w111 ⟨rfl, hb⟩; have n0_ := Aside0.mk (blk_below (g := gb420) (o := .cells #[.string t416, .string t417, .bool t418] 32 (0, 0)) (by (with_reducible repeat (first | refine blk_drewN ?_ _ | refine blk_drew ?_ | refine blk_alloc ?_ _)); exact BK420.out) hb); have n1_ := Aside0.mk (blk_below (g := gb426) (o := .cells #[.string t422, .string t423, .bool t424] 32 (0, 0)) (by (with_reducible repeat (first | refine blk_drewN ?_ _ | refine blk_drew ?_ | refine blk_alloc ?_ _)); exact BK426.out) hb); have n2_ := Aside0.mk (blk_below (g := gb431) (o := .cells #[.string t427, .string t428, .bool t429] 32 (0, 0)) (by (with_reducible repeat (first | refine blk_drewN ?_ _ | refine blk_drew ?_ | refine blk_alloc ?_ _)); exact BK431.out) hb); have n3_ := Aside0.mk (below_step (by repeat (first | (with_reducible first | exact HB.out | apply below_alloc | apply pw_below_drewN | apply below_drew1 | refine below_set ?_ GE420.out | refine below_set ?_ GE426.out | refine below_set ?_ GE431.out) | exact HB.out)) hb); clear BK420; clear BK426; clear BK431; clear HB; have BK420 := n0_; have BK426 := n1_; have BK431 := n2_; have HB := n3_; clear n0_ n1_ n2_ n3_; (try clear hb); (try clear hb2); (try clear hk); (try clear hi)) | (go_at_call 25; (with_reducible refine (vellumref02_Cmp.calls kj16 _ _ l1 _ _ l0 t437 _ ?side1 ?side2 ?side3 ?side4 A44.out).mono ?_); (case side1 => repeat (first | exact (Kd.C_below HR1.out HB.out) | (with_reducible refine Kd.C_alloc ?_ _) | (with_reducible refine Kd.C_drewN ?_ _) | (with_reducible refine Kd.C_drew ?_))); (case side2 => exact HC1.out); (case side3 => repeat (first | exact (Kd.C_below HR0.out HB.out) | (with_reducible refine Kd.C_alloc ?_ _) | (with_reducible refine Kd.C_drewN ?_ _) | (with_reducible refine Kd.C_drew ?_))); (case side4 => exact HC0.out); rintro e w112 ⟨rfl, hb⟩; have n0_ := Aside0.mk (blk_below (g := gb420) (o := .cells #[.string t416, .string t417, .bool t418] 32 (0, 0)) (by (with_reducible repeat (first | refine blk_drewN ?_ _ | refine blk_drew ?_ | refine blk_alloc ?_ _)); exact BK420.out) hb); have n1_ := Aside0.mk (blk_below (g := gb426) (o := .cells #[.string t422, .string t423, .bool t424] 32 (0, 0)) (by (with_reducible repeat (first | refine blk_drewN ?_ _ | refine blk_drew ?_ | refine blk_alloc ?_ _)); exact BK426.out) hb); have n2_ := Aside0.mk (blk_below (g := gb431) (o := .cells #[.string t427, .string t428, .bool t429] 32 (0, 0)) (by (with_reducible repeat (first | refine blk_drewN ?_ _ | refine blk_drew ?_ | refine blk_alloc ?_ _)); exact BK431.out) hb); have n3_ := Aside0.mk (below_step (by repeat (first | (with_reducible first | exact HB.out | apply below_alloc | apply pw_below_drewN | apply below_drew1 | refine below_set ?_ GE420.out | refine below_set ?_ GE426.out | refine below_set ?_ GE431.out) | exact HB.out)) hb); clear BK420; clear BK426; clear BK431; clear HB; have BK420 := n0_; have BK426 := n1_; have BK431 := n2_; have HB := n3_; clear n0_ n1_ n2_ n3_; (try clear hb); (try clear hb2); (try clear hk); (try clear hi)))
                    go_ret
                    exact ⟨by first | rfl | (simp [errW_none, errW_some] <;> rfl) | (simp [*, errW_none, errW_some] <;> rfl), by repeat (first | (with_reducible first | exact HB.out | apply below_alloc | apply pw_below_drewN | apply below_drew1 | refine below_set ?_ GE420.out | refine below_set ?_ GE426.out | refine below_set ?_ GE431.out) | exact HB.out)⟩
              · rw [if_neg c42] at H
                have c42b0 : (t434 == t435) = false := by simpa using c42
                (try (have c42b1 : decide (t434 = t435) = false := by simpa using c42))
                (try (have c42b2 : (t434 == t435) = false := by simpa using c42))
                (try (have c42b3 : ¬ (t434 = t435) := by simpa using c42))
                clear c42
                obtain rfl := Option.some.inj H
                have hnb113 := NB420_426.out
                have hnc113 := NB426_420.out
                have hnb114 := NB420_431.out
                have hnc114 := NB431_420.out
                have hcz115_0 : wc.cell? ⟨gb420, 0, none⟩ = some (.string t416) := (blk_cell BK420.out 0).trans rfl
                have hcz115_1 : wc.cell? ⟨gb420, 1, none⟩ = some (.string t417) := (blk_cell BK420.out 1).trans rfl
                have hcz115_2 : wc.cell? ⟨gb420, 2, none⟩ = some (.bool t418) := (blk_cell BK420.out 2).trans rfl
                have hfz115_0 := blk_frozen BK420.out 0
                have hfz115_1 := blk_frozen BK420.out 1
                have hfz115_2 := blk_frozen BK420.out 2
                go_wp2_with (first | ((with_reducible refine gate_callee (f := 28) rfl ?_); refine goesL_ (some 62) rfl rfl Tryd.func28 (by kernel_rfl) rfl #[.agg #[.string t416, .string t417, .bool t418], .string t414] rfl (by (try simp only [List.map_toArray, List.map_cons, List.map_nil]); first | done | rfl | (simp only [List.length_drop, List.length_take]; rfl)) ?_; (with_reducible refine (code_Has.calls t416 t417 t418 t414 t434 _ A40.out).mono ?_); rintro e w116 ⟨rfl, hb⟩; refine ⟨_, rfl, ?_⟩; have n0_ := Aside0.mk (blk_below (g := gb420) (o := .cells #[.string t416, .string t417, .bool t418] 32 (0, 0)) (by (with_reducible repeat (first | refine blk_drewN ?_ _ | refine blk_drew ?_ | refine blk_alloc ?_ _)); exact BK420.out) hb); have n1_ := Aside0.mk (blk_below (g := gb426) (o := .cells #[.string t422, .string t423, .bool t424] 32 (0, 0)) (by (with_reducible repeat (first | refine blk_drewN ?_ _ | refine blk_drew ?_ | refine blk_alloc ?_ _)); exact BK426.out) hb); have n2_ := Aside0.mk (blk_below (g := gb431) (o := .cells #[.string t427, .string t428, .bool t429] 32 (0, 0)) (by (with_reducible repeat (first | refine blk_drewN ?_ _ | refine blk_drew ?_ | refine blk_alloc ?_ _)); exact BK431.out) hb); have n3_ := Aside0.mk (below_step (by repeat (first | (with_reducible first | exact HB.out | apply below_alloc | apply pw_below_drewN | apply below_drew1 | refine below_set ?_ GE420.out | refine below_set ?_ GE426.out | refine below_set ?_ GE431.out) | exact HB.out)) hb); clear BK420; clear BK426; clear BK431; clear HB; have BK420 := n0_; have BK426 := n1_; have BK431 := n2_; have HB := n3_; clear n0_ n1_ n2_ n3_; (try clear hb); (try clear hb2); (try clear hk); (try clear hi)) | ((with_reducible refine gate_callee (f := 42) rfl ?_); refine goesL_ (some 65) rfl rfl Tryd.func42 (by kernel_rfl) rfl #[.slice A0 l0.length c0, .slice A1 l1.length c1] rfl (by (try simp only [List.map_toArray, List.map_cons, List.map_nil]); first | done | rfl | (simp only [List.length_drop, List.length_take]; rfl)) ?_; (with_reducible refine (vellumlaw02_begins.calls kj16 _ _ l0 _ _ l1 t435 _ ?side1 ?side2 ?side3 ?side4 A41.out).mono ?_); (case side1 => repeat (first | exact (Kd.C_below HR0.out HB.out) | (with_reducible refine Kd.C_alloc ?_ _) | (with_reducible refine Kd.C_drewN ?_ _) | (with_reducible refine Kd.C_drew ?_))); (case side2 => exact HC0.out); (case side3 => repeat (first | exact (Kd.C_below HR1.out HB.out) | (with_reducible refine Kd.C_alloc ?_ _) | (with_reducible refine Kd.C_drewN ?_ _) | (with_reducible refine Kd.C_drew ?_))); (case side4 => exact HC1.out); rintro e w117 ⟨rfl, hb⟩; refine ⟨_, rfl, ?_⟩; have n0_ := Aside0.mk (blk_below (g := gb420) (o := .cells #[.string t416, .string t417, .bool t418] 32 (0, 0)) (by (with_reducible repeat (first | refine blk_drewN ?_ _ | refine blk_drew ?_ | refine blk_alloc ?_ _)); exact BK420.out) hb); have n1_ := Aside0.mk (blk_below (g := gb426) (o := .cells #[.string t422, .string t423, .bool t424] 32 (0, 0)) (by (with_reducible repeat (first | refine blk_drewN ?_ _ | refine blk_drew ?_ | refine blk_alloc ?_ _)); exact BK426.out) hb); have n2_ := Aside0.mk (blk_below (g := gb431) (o := .cells #[.string t427, .string t428, .bool t429] 32 (0, 0)) (by (with_reducible repeat (first | refine blk_drewN ?_ _ | refine blk_drew ?_ | refine blk_alloc ?_ _)); exact BK431.out) hb); have n3_ := Aside0.mk (below_step (by repeat (first | (with_reducible first | exact HB.out | apply below_alloc | apply pw_below_drewN | apply below_drew1 | refine below_set ?_ GE420.out | refine below_set ?_ GE426.out | refine below_set ?_ GE431.out) | exact HB.out)) hb); clear BK420; clear BK426; clear BK431; clear HB; have BK420 := n0_; have BK426 := n1_; have BK431 := n2_; have HB := n3_; clear n0_ n1_ n2_ n3_; (try clear hb); (try clear hb2); (try clear hk); (try clear hi)))
                go_ret
                exact ⟨by first | rfl | (simp [errW_none, errW_some] <;> rfl) | (simp [*, errW_none, errW_some] <;> rfl), by repeat (first | (with_reducible first | exact HB.out | apply below_alloc | apply pw_below_drewN | apply below_drew1 | refine below_set ?_ GE420.out | refine below_set ?_ GE426.out | refine below_set ?_ GE431.out) | exact HB.out)⟩
end Go.Proofs.YtpiifdbicibelaaDoor.PA
end
section
namespace Go.Proofs.YtpiifdbicibelaaDoor.Pure
open Go.RowKit Go.Proofs Go.Proofs.YtpiifdbicibelaaDoorW.PrintWords Go.Proofs.YtpiifdbicibelaaDoorW.PrintLast Go.Proofs.YtpiifdbicibelaaDoorW.PrintMore Go.Proofs.YtpiifdbicibelaaDoor.PA Go.Proofs.YtpiifdbicibelaaDoor.OpenK
set_option linter.unusedVariables false
theorem lt_append_iff (a : List Int) {u v : List Int} : a ++ u < a ++ v ↔ u < v := by
  induction a with
  | nil => simp
  | cons b a ih =>
    show (b :: (a ++ u)) < (b :: (a ++ v)) ↔ _
    rw [List.cons_lt_cons_iff, ih]
    constructor
    · rintro (h | ⟨_, h⟩)
      · omega
      · exact h
    · exact fun h => Or.inr ⟨rfl, h⟩
/-- Between u and u with 255 behind it there are only texts that begin with u. -/
theorem Bf.notlt {u v s : List Int} (h : Bf u v) (hb : Bytes (v ++ s)) : ¬ (v ++ s < u ++ [255]) := by
  intro hlt
  have h1 := h [254, 256] s (fun x l e => by cases e; decide)
  revert h1 hlt hb
  generalize v ++ s = w
  clear h
  induction u generalizing w with
  | nil =>
    intro hb hlt h1
    cases w with
    | nil => exact List.not_lt_nil _ h1
    | cons x w =>
      have hx := hb x (by simp)
      simp only [List.nil_append] at h1 hlt
      rcases List.cons_lt_cons_iff.1 hlt with g | ⟨_, g⟩
      · rcases List.cons_lt_cons_iff.1 h1 with f | ⟨_, f⟩
        · omega
        · cases w with
          | nil => exact List.not_lt_nil _ f
          | cons y w =>
            have hy := hb y (by simp)
            rcases List.cons_lt_cons_iff.1 f with e | ⟨e, _⟩ <;> omega
      · exact List.not_lt_nil _ g
  | cons a u ih =>
    intro hb hlt h1
    cases w with
    | nil => exact List.not_lt_nil _ h1
    | cons x w =>
      simp only [List.cons_append] at h1 hlt
      rcases List.cons_lt_cons_iff.1 hlt with g | ⟨e, g⟩
      · rcases List.cons_lt_cons_iff.1 h1 with f | ⟨f, _⟩ <;> omega
      · rcases List.cons_lt_cons_iff.1 h1 with f | ⟨_, f⟩
        · omega
        · exact ih w (fun y hy => hb y (by simp [hy])) g f
/-- Does a list begin as_ another one does? -/
def pre (xs ys : List S50) : Prop := xs.length ≤ ys.length ∧ cmpL xs (ys.take xs.length) = 0
theorem flat_begins : ∀ {xs ys : List S50}, (∀ x ∈ xs, chkV x = 0 ∧ wf50 x) → (∀ y ∈ ys, chkV y = 0 ∧ wf50 y) →
    ((¬ flat ys < flat xs ∧ flat ys < flat xs ++ [255]) ↔ pre xs ys)
  | [], ys, _, hy => by
    constructor
    · exact fun _ => ⟨by simp, by simp [cmpL]⟩
    · refine fun _ => ⟨by simp [flat], ?_⟩
      show flat ys < [255]
      cases h : flat ys with
      | nil => exact List.nil_lt_cons _ _
      | cons a l => exact List.cons_lt_cons_iff.2 (Or.inl (flat_tail ys a l h))
  | x :: xs, [], hx, _ => by
    obtain ⟨a, t, e, _⟩ := codeOf_head x
    constructor
    · rintro ⟨h, _⟩
      exact absurd (by rw [flat_cons, e]; exact List.nil_lt_cons _ _) h
    · rintro ⟨h, _⟩
      simp at h
  | x :: xs, y :: ys, hx, hy => by
    have h := cmpV_says (hx x (by simp)).1 (hy y (by simp)).1 (hx x (by simp)).2 (hy y (by simp)).2
    have hbs : Bytes (flat (y :: ys)) := flat_bytes fun z hz => (hy z hz).2
    have ep : pre (x :: xs) (y :: ys) ↔ xs.length ≤ ys.length ∧ (if cmpV x y = 0 then cmpL xs (ys.take xs.length) else cmpV x y) = 0 := by
      unfold pre
      simp [cmpL]
    rw [ep]
    rw [flat_cons] at hbs
    rw [flat_cons, flat_cons]
    rcases h with ⟨h1, h2⟩ | ⟨h1, h2⟩ | ⟨h1, h2⟩
    · rw [h1, if_neg (by decide)]
      refine ⟨fun ⟨g1, g2⟩ => absurd g2 ?_, fun ⟨_, g⟩ => by omega⟩
      cases hf : flat xs with
      | nil => simpa using h2.notlt hbs
      | cons a l =>
        have := h2 (flat xs ++ [255]) (flat ys) (fun b m e => by rw [hf] at e; cases e; exact flat_tail xs a l hf)
        rw [← hf, List.append_assoc]
        exact List.lt_asymm this
    · rw [h1, if_neg (by decide)]
      refine ⟨fun ⟨g1, g2⟩ => absurd (h2 _ _ (flat_tail ys)) g1, fun ⟨_, g⟩ => by omega⟩
    · rw [h1, if_pos rfl, h2, List.append_assoc, lt_append_iff, lt_append_iff]
      exact flat_begins (xs := xs) (ys := ys) (fun z hz => hx z (by simp [hz])) (fun z hz => hy z (by simp [hz]))
theorem strOfNums_255 (l : List Int) : strOfNums l ++ (⟨#[255]⟩ : ByteArray) = strOfNums (l ++ [255]) := by
  apply Go.WideShapes.bytes_inj
  simp [strOfNums]
theorem Bytes.snoc {l : List Int} (h : Bytes l) : Bytes (l ++ [255]) := by
  intro x hx
  rcases List.mem_append.1 hx with h1 | h1
  · exact h x h1
  · simp at h1; omega
theorem has_f (lo hi b : List Int) (o : Bool) (hl : Bytes lo) (hh : Bytes hi) (hb : Bytes b) : code_Has.f (strOfNums lo) (strOfNums hi) o (strOfNums b) = some (decide (¬ b < lo ∧ (o = true ∨ b < hi))) := by
  unfold code_Has.f
  simp only [bytesLess_eq, Lib.toList_data, decide_eq_true_eq, strOfNums_data, toB_lt hb hl, toB_lt hb hh]
  by_cases h1 : b < lo
  · simp [h1]
  · cases o <;> simp [h1]
theorem begins_code {xs : List S50} (hw : ∀ x ∈ xs, wf50 x) (hl : xs.length < 9223372036854775807) (h0 : (encode xs).2 = 0) : Ev (fun k => code_Begins.f k xs) (strOfNums (flat xs), strOfNums (flat xs ++ [255]), false, 0) := by
  obtain ⟨_, he, hn⟩ := encode_ok h0
  have hs : (strOfNums (flat xs)).size = (flat xs).length := by
    rw [← data_length, strOfNums_data]; simp [toB]
  simp only [code_Begins.f]
  refine Ev.bind (encode_code xs hw hl) ?_
  rw [he]
  refine Ev.pos rfl (Ev.pos (by show (strOfNums (flat xs)).size + 1 ≤ _; omega) ?_)
  rw [strOfNums_255]
  exact Ev.pure
theorem begins_bad {xs : List S50} (hw : ∀ x ∈ xs, wf50 x) (hl : xs.length < 9223372036854775807) (h0 : (encode xs).2 ≠ 0) : Ev (fun k => code_Begins.f k xs) (⟨#[]⟩, ⟨#[]⟩, false, (encode xs).2) := by
  simp only [code_Begins.f]
  exact Ev.bind (encode_code xs hw hl) (Ev.neg h0 Ev.pure)
theorem begins_law {xs ys : List S50} (hx : ∀ x ∈ xs, wf50 x) (hy : ∀ x ∈ ys, wf50 x) (lx : xs.length < 9223372036854775807) (ly : ys.length < 9223372036854775807) [Decidable (pre xs ys)] : Ev (fun k => vellumlaw02_begins.f k xs ys) (decide (pre xs ys)) := by
  simp only [vellumlaw02_begins.f]
  by_cases h : xs.length ≤ ys.length
  · refine Ev.pos (by omega) (Ev.pos (by omega) ?_)
    have e : ((xs.length : Int) : Int).toNat = xs.length := by omega
    rw [e]
    refine Ev.bind (cmp_ev xs (ys.take xs.length) hx (fun y h => hy y (List.mem_of_mem_take h)) lx (by simp; omega)) ?_
    have e2 : (cmpL xs (ys.take xs.length) == 0) = decide (pre xs ys) := by
      unfold pre
      simp [h]
      rfl
    rw [e2]
    exact Ev.pure
  · refine Ev.neg (by omega) ?_
    have e2 : decide (pre xs ys) = false := decide_eq_false fun g => h g.1
    rw [e2]
    exact Ev.pure
theorem Bytes.nil : Bytes [] := fun _ h => by cases h
theorem CodeBegins (l0 l1 : List S50) (a2 : Bool) (h0 : l0.length * 40 ≤ 140737488351232 ∧ ∀ y ∈ l0, wf50 y) (h1 : l1.length * 40 ≤ 140737488351232 ∧ ∀ y ∈ l1, wf50 y) : ∃ k, vellumlaw02_CodeBegins.f k l0 l1 a2 = some true := by
  classical
  refine Ev.ex ?_
  simp only [vellumlaw02_CodeBegins.f]
  have lx : l0.length < 9223372036854775807 := by omega
  have ly : l1.length < 9223372036854775807 := by omega
  have fin : ∀ b u v o, Ev (fun k => vellumlaw02_CodeBegins.j0 k l0 l1 a2 b true u v o) true := by
    intro b u v o
    refine Ev.step (g := fun k => (vellumlaw02_awake.f k).bind fun t421 => (some t421)) (fun k => ?_) (Ev.bind awake_ev Ev.pure)
    simp only [vellumlaw02_CodeBegins.j0]
    rw [if_pos trivial]
  refine Ev.bind (encode_code l1 h1.2 ly) ?_
  by_cases e0 : (encode l0).2 = 0
  · obtain ⟨c0, f0, n0⟩ := encode_ok e0
    have hx : ∀ x ∈ l0, chkV x = 0 ∧ wf50 x := fun x h => ⟨c0 x h, h0.2 x h⟩
    refine Ev.bind (begins_code h0.2 lx e0) ?_
    by_cases e1 : (encode l1).2 = 0
    · obtain ⟨c1, f1, n1⟩ := encode_ok e1
      have hy : ∀ x ∈ l1, chkV x = 0 ∧ wf50 x := fun x h => ⟨c1 x h, h1.2 x h⟩
      have bA : Bytes (flat l0) := flat_bytes h0.2
      have bB : Bytes (flat l1) := flat_bytes h1.2
      have key := flat_begins hx hy
      have hcmp := cmpL_lt hy hx
      rw [f1]
      refine Ev.pos rfl ?_
      have e00 : ((0 : Int) != 0) = false := rfl
      simp only [e00]
      generalize hA : flat l0 = A at *
      generalize hB : flat l1 = B at *
      have hAA : A < A ++ [255] := by
        have := lt_append_iff A (u := []) (v := [255])
        rw [List.append_nil] at this
        exact this.2 (List.nil_lt_cons _ _)
      have nilS : (⟨#[]⟩ : ByteArray) = strOfNums [] := rfl
      have hFrom : Ev (fun k => code_From.f k l0 a2) (strOfNums (if a2 then A else A ++ [255]), strOfNums [], true, 0) := by
        simp only [code_From.f]
        refine Ev.bind (begins_code h0.2 lx e0) (Ev.pos rfl ?_)
        rw [hA]
        cases a2
        · exact Ev.neg (by decide) Ev.pure
        · exact Ev.pos rfl Ev.pure
      have hTo : Ev (fun k => code_To.f k l0 (!a2)) (strOfNums [], strOfNums (if a2 then A else A ++ [255]), false, 0) := by
        simp only [code_To.f]
        refine Ev.bind (begins_code h0.2 lx e0) (Ev.pos rfl ?_)
        rw [hA]
        cases a2
        · exact Ev.pos rfl Ev.pure
        · exact Ev.neg (by decide) Ev.pure
      have bE : Bytes (if a2 then A else A ++ [255]) := by cases a2; exact bA.snoc; exact bA
      refine Ev.step (g := fun k => (code_From.f k l0 a2).bind fun bt422 => ((code_To.f k l0 (!a2)).bind fun bt427 => (if bt422.2.2.2 = 0 then (if bt427.2.2.2 = 0 then ((code_Has.f bt422.1 bt422.2.1 bt422.2.2.1 (strOfNums B)).bind fun t432 => ((code_Has.f bt427.1 bt427.2.1 bt427.2.2.1 (strOfNums B)).bind fun t433 => (vellumlaw02_CodeBegins.j1 k l0 l1 a2 (strOfNums B) (t432 == t433) (strOfNums A) (strOfNums (A ++ [255])) false bt422.1 bt422.2.1 bt422.2.2.1))) else (vellumlaw02_CodeBegins.j1 k l0 l1 a2 (strOfNums B) true (strOfNums A) (strOfNums (A ++ [255])) false bt422.1 bt422.2.1 bt422.2.2.1)) else (vellumlaw02_CodeBegins.j1 k l0 l1 a2 (strOfNums B) true (strOfNums A) (strOfNums (A ++ [255])) false bt422.1 bt422.2.1 bt422.2.2.1)))) (fun k => ?_) ?_
      · simp only [vellumlaw02_CodeBegins.j0]
        rw [if_neg (by decide)]
      refine Ev.bind hFrom (Ev.bind hTo (Ev.pos rfl (Ev.pos rfl ?_)))
      generalize hE : (if a2 then A else A ++ [255]) = E at *
      refine Ev.bind (Ev.const (has_f E [] B true bE Bytes.nil bB)) (Ev.bind (Ev.const (has_f [] E B false Bytes.nil bE bB)) ?_)
      have e1' : decide (¬ B < E ∧ (true = true ∨ B < [])) = decide (¬ B < E) := by simp
      have e2' : decide (¬ B < [] ∧ (false = true ∨ B < E)) = decide (B < E) := by simp
      have e3' : (decide (¬ B < E) == decide (B < E)) = false := by by_cases h : B < E <;> simp [h]
      rw [e1', e2', e3']
      refine Ev.step (g := fun k => (code_Has.f (strOfNums A) (strOfNums (A ++ [255])) false (strOfNums B)).bind fun t434 => ((vellumlaw02_begins.f k l0 l1).bind fun t435 => (if (t434 == t435) = true then ((code_Has.f (strOfNums E) (strOfNums []) true (strOfNums B)).bind fun t436 => ((vellumref02_Cmp.f k l1 l0).bind fun t437 => (if t437 ≥ 0 then (if a2 = true then (if (t436 == true) = true then ((vellumlaw02_awake.f k).bind fun t438 => (some t438)) else (some false)) else ((vellumlaw02_begins.f k l0 l1).bind fun t439 => (if (t436 == (!t439)) = true then ((vellumlaw02_awake.f k).bind fun t440 => (some t440)) else (some false)))) else (if (t436 == false) = true then ((vellumlaw02_awake.f k).bind fun t441 => (some t441)) else (some false))))) else (some false)))) (fun k => ?_) ?_
      · simp only [vellumlaw02_CodeBegins.j1]
        rw [if_neg (by decide)]
      refine Ev.bind (Ev.const (has_f A (A ++ [255]) B false bA bA.snoc bB)) (Ev.bind (begins_law h0.2 h1.2 lx ly) ?_)
      have k1 : decide (¬ B < A ∧ (false = true ∨ B < A ++ [255])) = decide (pre l0 l1) := by
        have e : (¬ B < A ∧ (false = true ∨ B < A ++ [255])) ↔ pre l0 l1 := by simpa using key
        exact decide_eq_decide.2 e
      rw [k1]
      refine Ev.pos (by simp) (Ev.bind (Ev.const (has_f E [] B true bE Bytes.nil bB)) ?_)
      refine Ev.bind (cmp_ev l1 l0 h1.2 h0.2 ly lx) ?_
      rw [e1']
      have done : Ev (fun k => (vellumlaw02_awake.f k).bind fun t => some t) true := Ev.bind awake_ev Ev.pure
      have trans : ∀ {a b c : List Int}, a < b → b < c → a < c := fun h g => List.lt_trans h g
      by_cases hge : cmpL l1 l0 ≥ 0
      · have hnl : ¬ B < A := by
          rcases hcmp with ⟨g, _⟩ | ⟨_, g⟩ | ⟨_, g⟩
          · omega
          · exact List.lt_asymm g
          · rw [g]; exact List.lt_irrefl _
        refine Ev.pos hge ?_
        cases a2
        · refine Ev.neg (by decide) (Ev.bind (begins_law h0.2 h1.2 lx ly) (Ev.pos ?_ done))
          simp only [Bool.false_eq_true, if_false] at hE
          subst hE
          have : pre l0 l1 ↔ B < A ++ [255] := by rw [← key]; exact ⟨fun h => h.2, fun h => ⟨hnl, h⟩⟩
          by_cases h : B < A ++ [255]
          · simp [this.2 h, h]
          · have : ¬ pre l0 l1 := fun g => h (this.1 g)
            simp [this, h]
        · refine Ev.pos rfl (Ev.pos ?_ done)
          simp only [if_true] at hE
          subst hE
          simp [hnl]
      · have hl : B < A := by
          rcases hcmp with ⟨_, g⟩ | ⟨g, _⟩ | ⟨g, _⟩
          · exact g
          · omega
          · omega
        have hE' : B < E := by
          cases a2
          · simp only [Bool.false_eq_true, if_false] at hE
            subst hE
            exact trans hl hAA
          · simp only [if_true] at hE
            subst hE
            exact hl
        exact Ev.neg hge (Ev.pos (by simp [hE']) done)
    · exact Ev.neg e1 (fin _ _ _ _)
  · refine Ev.bind (begins_bad h0.2 lx e0) ?_
    by_cases e1 : (encode l1).2 = 0
    · refine Ev.pos e1 ?_
      have : ((encode l0).2 != 0) = true := by simpa using e0
      simp only [this]
      exact fin _ _ _ _
    · exact Ev.neg e1 (fin _ _ _ _)
end Go.Proofs.YtpiifdbicibelaaDoor.Pure
end
section
namespace Go.Proofs.YtpiifdbicibelaaDoor.codeBegins
open Go.ChangeShapes Go.WideShapes Go.ChangeAt Go.RowKit Go.Proofs.YtpiifdbicibelaaDoorW.PrintWords Go.Proofs.YtpiifdbicibelaaDoor.PA Go.Proofs.YtpiifdbicibelaaDoor.OpenK Go.Proofs.YtpiifdbicibelaaDoor.Pure
open Go.ChangeMaps (open_string shut_string)
set_option linter.unusedVariables false
theorem walk {H : Type} {enc : TypeId × Value → H} (W : World) (base : Nat) (args : Array Value) (ds : List (DataW H)) (ps : List MemPlace) (hA0 : DataW.TrodAll enc Tryd.prog W 0 (fun _ => true) true Tryd.f7.params.toList args.toList ds ps)
    (hw0 : (DataW.weightsEach Tryd.prog Tryd.f7.params.toList ds).all (· ≤ reachBytes) = true) (hval0 : ∀ (j : Nat) t v, Tryd.f7.params[j]? = some t → args[j]? = some v → Value.okWide Tryd.prog W .any base t v) (hG : Glob W) :
    Calls Tryd.prog 7 args W fun e W' => e = .returned (.bool true) ∧ Below W.heap.size W W' := by
  have hval : ∀ (j : Nat) t v, Tryd.f7.params[j]? = some t → args[j]? = some v → Value.okWide Tryd.prog W .any base t v := @hval0
  have hA : DataW.TrodAll enc Tryd.prog W 0 (fun _ => true) true Tryd.f7.params.toList args.toList ds ps := hA0
  have hw : (DataW.weightsEach Tryd.prog Tryd.f7.params.toList ds).all (· ≤ reachBytes) = true := hw0
  rw [Tryd.params7] at hA hval hw
  clear hA0 hw0 hval0
  obtain ⟨v0, vs0, d0, ds0, p0, q0, hargs, rfl, rfl, h0, r0⟩ := trodAll_cons hA
  obtain ⟨v1, vs1, d1, ds1, p1, q1, rfl, rfl, rfl, h1, r1⟩ := trodAll_cons r0
  obtain ⟨v2, vs2, d2, ds2, p2, q2, rfl, rfl, rfl, h2, r2⟩ := trodAll_cons r1
  obtain ⟨rfl, rfl, rfl⟩ := trodAll_nil r2
  obtain rfl : args = #[v0, v1, v2] := by cases args; simp_all
  simp only [DataW.weightsEach, all_append_iff] at hw
  obtain ⟨hw0, hw1, hw2, _⟩ := hw
  obtain ⟨a0, len0, cap0, rfl⟩ := arg_slice (j := 0) @hval rfl rfl Tryd.underlying22
  obtain ⟨fuel0, hf0⟩ := h0
  obtain ⟨l0, ⟨A0, c0, he0, hl0, hC0⟩, wf0_⟩ := (Opn.slice Tryd.underlying22 opn50 (by kernel_rfl) (by kernel_rfl)) hf0 hw0
  simp [Value.cells] at he0
  obtain ⟨rfl, rfl, rfl⟩ := he0
  obtain ⟨a1, len1, cap1, rfl⟩ := arg_slice (j := 1) @hval rfl rfl Tryd.underlying22
  obtain ⟨fuel1, hf1⟩ := h1
  obtain ⟨l1, ⟨A1, c1, he1, hl1, hC1⟩, wf1_⟩ := (Opn.slice Tryd.underlying22 opn50 (by kernel_rfl) (by kernel_rfl)) hf1 hw1
  simp [Value.cells] at he1
  obtain ⟨rfl, rfl, rfl⟩ := he1
  obtain ⟨a2, rfl, rfl, rfl⟩ := arg_bool (j := 2) @hval rfl rfl Tryd.underlying4 h2
  obtain ⟨k, h⟩ := CodeBegins l0 l1 a2 wf0_ wf1_
  refine (vellumlaw02_CodeBegins.calls k _ _ l0 _ _ l1 a2 true W hC0 hl0 hC1 hl1 hG h).mono ?_
  rintro e W' ⟨rfl, hd⟩
  exact ⟨rfl, hd⟩
theorem witness_row (os : Os) {H : Type} (enc : TypeId × Value → H) :
    (OpenSpec.ofChange Rows.codeBeginsSpec).preRow enc Tryd.prog Tryd.f7 [] false laidList ((laidWorld os).forCall (fun _ _ => 0) ⟨#[], #[.slice none 0 0, .slice none 0 0, .bool false], []⟩).memory #[.slice none 0 0, .slice none 0 0, .bool false] := by
  have hw : (DataW.whole enc Tryd.prog ((laidWorld os).forCall (fun _ _ => 0) ⟨#[], #[.slice none 0 0, .slice none 0 0, .bool false], []⟩).memory Tryd.f7.params.toList (OpenSpec.ofChange Rows.codeBeginsSpec).vars false (#[.slice none 0 0, .slice none 0 0, .bool false] : Array Value).toList 8).map (fun x => (x.1, x.2.1)) = some ([.nil, .nil, .lit (.bool false)], []) := by kernel_rfl
  obtain ⟨⟨x1, x2, x3⟩, hx, hx1⟩ := Option.map_eq_some_iff.1 hw
  simp only [Prod.mk.injEq] at hx1
  obtain ⟨rfl, rfl⟩ := hx1
  exact OpenSpec.preRow_of_cond 8 hx (by kernel_rfl) (fun k hk => by cases hk) (by kernel_rfl) (laid_met os _)
theorem ends {os : Os} (started : os.Started) {H : Type} {enc : TypeId × Value → H} {F : Stop.Interp} : ReturnsInHanded { modest := false } Tryd.checked os 7 .any ((OpenSpec.ofChange Rows.codeBeginsSpec).preRow enc Tryd.prog Tryd.f7 [] false laidList) (((OpenSpec.ofChange Rows.codeBeginsSpec).at F).post enc Tryd.prog Tryd.f7 false true false false) :=
  law_lifted (spec := Rows.codeBeginsSpec) Tryd.func7 (by kernel_rfl) (tb := 4) rfl Tryd.underlying4 (by kernel_rfl) rfl
    (fun H ds hl => by
      match ds, hl with
      | [_, _, _], _ => rfl) started
    (witness_row_atRef (enc := enc) (C := Tryd.checked) false (laidWorld os) #[.slice none 0 0, .slice none 0 0, .bool false] rfl (by kernel_rfl) (by kernel_rfl) (by kernel_rfl) (witness_row os enc))
    (fun W base args ds ps hA hw hval hG => walk W base args ds ps hA hw @hval hG)
theorem inPlace_ : Tryd.prog.inPlace 7 = Rows.codeBeginsRow.inPlace := by kernel_rfl
theorem unfollowed_ : Tryd.prog.unfollowed 7 = Rows.codeBeginsRow.unfollowed := by kernel_rfl
theorem recurses_ : Tryd.prog.recurses 7 = Rows.codeBeginsRow.recurses := by kernel_rfl
theorem named_ : Tryd.prog.varsNamed 7 = Rows.codeBeginsRow.named := by kernel_rfl
theorem closed : joinedFacts Tryd.prog 7 Tryd.f7 (OpenSpec.ofChange Rows.codeBeginsSpec).bare Rows.codeBeginsRow = true := by
  unfold joinedFacts
  rw [laidOut, mapsRowed_, stops_, stopKnobs_, plainKeys_, stopsHeard_, mayEnter_, lifts_, make_, inPlace_, unfollowed_, recurses_, named_]
  kernel_rfl
set_option maxRecDepth 100000 in
theorem over : Rows.codeBeginsRow.holds Tryd.pinned (OpenSpec.ofChange Rows.codeBeginsSpec) :=
  OpenClaim.holds_of_cond 7 Tryd.f7 rfl rfl rfl rfl rfl rfl rfl ⟨rfl, rfl, rfl, rfl, rfl⟩ rfl rfl rfl rfl rfl (by kernel_rfl) Tryd.func7 closed
    (of_decide_eq_true (by kernel_rfl)) (by unfold Func.isWrapper; rw [if_neg (of_decide_eq_false (by kernel_rfl))]; exact ⟨rfl, rfl⟩)
    (fun os started H enc _ F => by
      rw [OpenClaim.pre_eq_preRow]
      exact ends started)
theorem card : Rows.CodeBeginsCardSaid :=
  Claim7.holds_tied_plain_at .later [] [.data, .pinned] true (true, "409e20a6319c123f59629b35fea50f486835097bfbed967dc062cdc0fc9eff79") false
    over (fun _ h => by cases h) (by kernel_rfl) (fun _ h => by cases h) codeBegins_row_tie rfl ⟨rfl, rfl⟩ (by kernel_rfl) rfl
    (fun f fn hf hfn => by
      obtain rfl : f = 7 := Option.some.inj ((show Tryd.prog.funcNamed "vellum/vellumlaw02.CodeBegins" = some 7 by kernel_rfl).symm.trans hf) |>.symm
      obtain rfl : fn = Tryd.f7 := (Option.some.inj (Tryd.func7.symm.trans hfn)).symm
      exact ⟨by kernel_rfl, fun j t ht => by
        rw [Tryd.params7] at ht
        have h3 : t ∈ [22, 22, 4] := by
          have := List.mem_of_getElem? (l := [22, 22, 4]) (i := j) (by simpa using ht)
          exact this
        have h4 : ∀ t ∈ [22, 22, 4], Tryd.prog.wantsStandIn t = false := by
          intro t ht
          simp only [List.mem_cons, List.mem_nil_iff, or_false] at ht
          rcases ht with rfl | rfl | rfl
          all_goals kernel_rfl
        exact h4 t h3⟩)
    (by kernel_rfl)
end Go.Proofs.YtpiifdbicibelaaDoor.codeBegins
namespace Go.Proofs.YtpiifdbicibelaaDoor
theorem codeBegins_holds : Rows.CodeBeginsCardSaid := codeBegins.card
end Go.Proofs.YtpiifdbicibelaaDoor
end
