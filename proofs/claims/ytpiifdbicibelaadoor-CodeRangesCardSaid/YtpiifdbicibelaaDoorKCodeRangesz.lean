/- CodeRanges: the law returns true at every input, and its arguments read as before. Conditions: as the row has them (the listed tables as the program's text lays them). -/
import Derived.Test.YtpiifdbicibelaaDoorKCodeRanges2
section
namespace Go.Proofs.YtpiifdbicibelaaDoor.PA
open Go.RowKit Go.Proofs.YtpiifdbicibelaaDoorW.PrintWords Go.Proofs.YtpiifdbicibelaaDoorW.PrintLast Go.Proofs.YtpiifdbicibelaaDoorW.PrintMore
attribute [local go_sem] max2_int min2_int max_two min_two max_three min_three max_four min_four   -- for this text's walks alone
set_option linter.unusedVariables false
set_option linter.unusedSimpArgs false
set_option maxHeartbeats 8000000 in
set_option maxRecDepth 100000 in
theorem vellumref02_To.calls (k : Nat) (A0 : Option Addr) (c0 : Nat) (l0 : List (S50)) (a1 : Bool) (r1 : ByteArray) (r2 : ByteArray) (r3 : Bool) (r4 : Int) (w : World) (hr0 : Kd.C k50 w A0 l0.length l0) (hc0 : l0.length ≤ c0) (hG : Glob w) (h : vellumref02_To.f k l0 a1 = some (r1, r2, r3, r4)) :
    Calls Tryd.prog 41 #[.slice A0 l0.length c0, .bool a1] w fun e w' => e = .returned (.tuple #[.agg #[.string r1, .string r2, .bool r3], .int .i64 r4]) ∧ Below w.heap.size w w' := by
  have hu32 := Tryd.underlying32
  have HR0 := Aside0.mk hr0
  have HC0 := Aside0.mk hc0
  clear hr0 hc0
  have HG := Aside0.mk hG
  clear hG
  have HB := Aside0.mk (Below.refl w.heap.size w)
  have H : ((vellumref02_Begins.f k l0).bind fun bt379 => (if bt379.2.2.2 = 0 then (if a1 = true then (some ((⟨#[]⟩ : ByteArray), bt379.2.1, false, 0)) else (some ((⟨#[]⟩ : ByteArray), bt379.1, false, 0))) else (some (bt379.1, bt379.2.1, bt379.2.2.1, bt379.2.2.2)))) = some (r1, r2, r3, r4) := h
  clear h
  replace H := Option.bind_eq_some_iff.mp H
  obtain ⟨⟨t379, t380, t381, t382⟩, A30, H⟩ := H
  replace H : (if t382 = 0 then (if a1 = true then (some ((⟨#[]⟩ : ByteArray), t380, false, 0)) else (some ((⟨#[]⟩ : ByteArray), t379, false, 0))) else (some (t379, t380, t381, t382))) = some (r1, r2, r3, r4) := H
  have A3 := Aside0.mk A30
  clear A30
  by_cases c4 : t382 = 0
  · rw [if_pos c4] at H
    have c4b0 : (t382 == 0) = true := beq_iff_eq.mpr c4
    have c4b1 : (t382 != 0) = false := bne_eq_false_iff_eq.mpr c4
    clear c4
    by_cases c5 : a1 = true
    · subst c5
      have H1 : (some ((⟨#[]⟩ : ByteArray), t380, false, 0)) = some (r1, r2, r3, r4) := by rw [if_pos rfl] at H; exact H
      clear H
      have H := H1
      clear H1
      simp only [Option.some.injEq, Prod.mk.injEq] at H
      obtain ⟨rfl, rfl, rfl, rfl⟩ := H
      go_enter Tryd.func41, Tryd.ntmps41
      go_wp2_with (first | ((with_reducible refine gate_dst (N := 4) rfl ?_); refine box_event ?hg (N := 4) ?hd (cs := #[.string (⟨#[]⟩ : ByteArray), .string (⟨#[]⟩ : ByteArray), .bool false]) (t := 32) ?hr ?_; (case hd => rfl); (case hg => rfl); (case hr => first | (go_simp; done) | (go_simp; rfl)); intro gb378 hg w6 hbox hb; have n0_ := Aside0.mk (below_step (by repeat (first | (with_reducible first | exact HB.out | apply below_alloc | apply pw_below_drewN | apply below_drew1) | exact HB.out)) hb); have n1_ := Aside0.mk (hbox); have n2_ := Aside0.mk ((by rw [hg]; exact (below_size (by repeat (first | (with_reducible first | exact HB.out | apply below_alloc | apply pw_below_drewN | apply below_drew1) | exact HB.out))) : w.heap.size ≤ gb378)); have n3_ := Aside0.mk ((by rw [hg]; exact (below_size (by repeat (first | (with_reducible first | exact HB.out | apply below_alloc | apply pw_below_drewN | apply below_drew1) | exact HB.out))) : w.heap.size ≤ gb378)); clear HB; have HB := n0_; have BK378 := n1_; have GW378 := n2_; have GE378 := n3_; clear n0_ n1_ n2_ n3_; clear hb hbox hg) | ((with_reducible refine gate_callee (f := 37) rfl ?_); refine goesL_ (some 10) rfl rfl Tryd.func37 (by kernel_rfl) rfl #[.slice A0 l0.length c0] rfl (by (try simp only [List.map_toArray, List.map_cons, List.map_nil]); first | done | rfl | (simp only [List.length_drop, List.length_take]; rfl)) ?_; (with_reducible refine (vellumref02_Begins.calls k _ _ l0 t379 t380 t381 t382 _ ?side1 ?side2 ?side3 A3.out).mono ?_); (case side1 => repeat (first | exact (Kd.C_below HR0.out HB.out) | (with_reducible refine Kd.C_alloc ?_ _) | (with_reducible refine Kd.C_drewN ?_ _) | (with_reducible refine Kd.C_drew ?_))); (case side2 => exact HC0.out); (case side3 => exact Glob.below HG.out (by repeat (first | (with_reducible first | exact HB.out | apply below_alloc | apply pw_below_drewN | apply below_drew1 | refine below_set ?_ GE378.out) | exact HB.out))); rintro e w7 ⟨rfl, hb⟩; refine ⟨_, rfl, ?_⟩; have n0_ := Aside0.mk (blk_below (g := gb378) (o := .cells #[.string (⟨#[]⟩ : ByteArray), .string (⟨#[]⟩ : ByteArray), .bool false] 32 (0, 0)) (by (with_reducible repeat (first | refine blk_drewN ?_ _ | refine blk_drew ?_ | refine blk_alloc ?_ _)); exact BK378.out) hb); have n1_ := Aside0.mk (below_step (by repeat (first | (with_reducible first | exact HB.out | apply below_alloc | apply pw_below_drewN | apply below_drew1 | refine below_set ?_ GE378.out) | exact HB.out)) hb); clear BK378; clear HB; have BK378 := n0_; have HB := n1_; clear n0_ n1_; (try clear hb); (try clear hb2); (try clear hk); (try clear hi)) | ((with_reducible refine gate_dst (N := 6) rfl ?_); refine box_event ?hg (N := 6) ?hd (cs := #[.string (⟨#[]⟩ : ByteArray), .string (⟨#[]⟩ : ByteArray), .bool false]) (t := 32) ?hr ?_; (case hd => rfl); (case hg => rfl); (case hr => first | (go_simp; done) | (go_simp; rfl)); intro gb383 hg w8 hbox hb; have n0_ := Aside0.mk (blk_below (g := gb378) (o := .cells #[.string (⟨#[]⟩ : ByteArray), .string (⟨#[]⟩ : ByteArray), .bool false] 32 (0, 0)) (by (with_reducible repeat (first | refine blk_drewN ?_ _ | refine blk_drew ?_ | refine blk_alloc ?_ _)); exact BK378.out) hb); have n1_ := Aside0.mk (below_step (by repeat (first | (with_reducible first | exact HB.out | apply below_alloc | apply pw_below_drewN | apply below_drew1 | refine below_set ?_ GE378.out) | exact HB.out)) hb); have n2_ := Aside0.mk (hbox); have n3_ := Aside0.mk ((by rw [hg]; exact (below_size (by repeat (first | (with_reducible first | exact HB.out | apply below_alloc | apply pw_below_drewN | apply below_drew1 | refine below_set ?_ GE378.out) | exact HB.out))) : w.heap.size ≤ gb383)); have n4_ := Aside0.mk ((by rw [hg]; exact (below_size (by repeat (first | (with_reducible first | exact HB.out | apply below_alloc | apply pw_below_drewN | apply below_drew1 | refine below_set ?_ GE378.out) | exact HB.out))) : w.heap.size ≤ gb383)); have n5_ := Aside0.mk ((by rw [hg]; exact Nat.ne_of_lt (blk_lt (g := gb378) (o := .cells #[.string (⟨#[]⟩ : ByteArray), .string (⟨#[]⟩ : ByteArray), .bool false] 32 (0, 0)) (by (with_reducible repeat (first | refine blk_drewN ?_ _ | refine blk_drew ?_ | refine blk_alloc ?_ _)); exact BK378.out)) : gb378 ≠ gb383)); have n6_ := Aside0.mk ((by rw [hg]; exact Nat.ne_of_gt (blk_lt (g := gb378) (o := .cells #[.string (⟨#[]⟩ : ByteArray), .string (⟨#[]⟩ : ByteArray), .bool false] 32 (0, 0)) (by (with_reducible repeat (first | refine blk_drewN ?_ _ | refine blk_drew ?_ | refine blk_alloc ?_ _)); exact BK378.out)) : gb383 ≠ gb378)); clear BK378; clear HB; have BK378 := n0_; have HB := n1_; have BK383 := n2_; have GW383 := n3_; have GE383 := n4_; have NB378_383 := n5_; have NB383_378 := n6_; clear n0_ n1_ n2_ n3_ n4_ n5_ n6_; clear hb hbox hg; have hnb9 := NB383_378.out; have hnc9 := NB378_383.out; have hcz10_0 : w8.cell? ⟨gb383, 0, none⟩ = some (.string (⟨#[]⟩ : ByteArray)) := (blk_cell BK383.out 0).trans rfl; have hcz10_1 : w8.cell? ⟨gb383, 1, none⟩ = some (.string (⟨#[]⟩ : ByteArray)) := (blk_cell BK383.out 1).trans rfl; have hcz10_2 : w8.cell? ⟨gb383, 2, none⟩ = some (.bool false) := (blk_cell BK383.out 2).trans rfl; have hfz10_0 := blk_frozen BK383.out 0; have hfz10_1 := blk_frozen BK383.out 1; have hfz10_2 := blk_frozen BK383.out 2; have hcz11_0 : w8.cell? ⟨gb378, 0, none⟩ = some (.string (⟨#[]⟩ : ByteArray)) := (blk_cell BK378.out 0).trans rfl; have hcz11_1 : w8.cell? ⟨gb378, 1, none⟩ = some (.string (⟨#[]⟩ : ByteArray)) := (blk_cell BK378.out 1).trans rfl; have hcz11_2 : w8.cell? ⟨gb378, 2, none⟩ = some (.bool false) := (blk_cell BK378.out 2).trans rfl; have hfz11_0 := blk_frozen BK378.out 0; have hfz11_1 := blk_frozen BK378.out 1; have hfz11_2 := blk_frozen BK378.out 2))
      refine bodyPost_ret (results_ct rfl _ _ gb378 32 #[.string (⟨#[]⟩ : ByteArray), .string t380, .bool false] (0, 0) _ rfl (by (with_reducible repeat (first | refine blk_drewN ?_ _ | refine blk_drew ?_ | refine blk_alloc ?_ _)); refine blk_put (cs := #[.string (⟨#[]⟩ : ByteArray), .string t380, .bool false]) ?_ 2 _ rfl; (with_reducible repeat (first | refine blk_drewN ?_ _ | refine blk_drew ?_ | refine blk_alloc ?_ _)); refine blk_put (cs := #[.string (⟨#[]⟩ : ByteArray), .string (⟨#[]⟩ : ByteArray), .bool false]) ?_ 1 _ rfl; (with_reducible repeat (first | refine blk_drewN ?_ _ | refine blk_drew ?_ | refine blk_alloc ?_ _)); refine blk_put (cs := #[.string (⟨#[]⟩ : ByteArray), .string (⟨#[]⟩ : ByteArray), .bool false]) ?_ 0 _ rfl; (with_reducible repeat (first | refine blk_drewN ?_ _ | refine blk_drew ?_ | refine blk_alloc ?_ _)); refine blk_far ?_ NB378_383.out _; (with_reducible repeat (first | refine blk_drewN ?_ _ | refine blk_drew ?_ | refine blk_alloc ?_ _)); refine blk_far ?_ NB378_383.out _; (with_reducible repeat (first | refine blk_drewN ?_ _ | refine blk_drew ?_ | refine blk_alloc ?_ _)); refine blk_far ?_ NB378_383.out _; (with_reducible repeat (first | refine blk_drewN ?_ _ | refine blk_drew ?_ | refine blk_alloc ?_ _)); exact BK378.out) Tryd.underlying32 rfl (by kernel_rfl)) rfl ?_
      exact ⟨by first | rfl | (simp [errW_none, errW_some] <;> rfl) | (simp [*, errW_none, errW_some] <;> rfl), by repeat (first | (with_reducible first | exact HB.out | apply below_alloc | apply pw_below_drewN | apply below_drew1 | refine below_set ?_ GE378.out | refine below_set ?_ GE383.out) | exact HB.out)⟩
    · replace c5 := Bool.eq_false_iff.mpr c5
      subst c5
      have H1 : (some ((⟨#[]⟩ : ByteArray), t379, false, 0)) = some (r1, r2, r3, r4) := by rw [if_neg (show ¬ (false = true) by decide)] at H; exact H
      clear H
      have H := H1
      clear H1
      simp only [Option.some.injEq, Prod.mk.injEq] at H
      obtain ⟨rfl, rfl, rfl, rfl⟩ := H
      go_enter Tryd.func41, Tryd.ntmps41
      go_wp2_with (first | ((with_reducible refine gate_dst (N := 4) rfl ?_); refine box_event ?hg (N := 4) ?hd (cs := #[.string (⟨#[]⟩ : ByteArray), .string (⟨#[]⟩ : ByteArray), .bool false]) (t := 32) ?hr ?_; (case hd => rfl); (case hg => rfl); (case hr => first | (go_simp; done) | (go_simp; rfl)); intro gb378 hg w12 hbox hb; have n0_ := Aside0.mk (below_step (by repeat (first | (with_reducible first | exact HB.out | apply below_alloc | apply pw_below_drewN | apply below_drew1) | exact HB.out)) hb); have n1_ := Aside0.mk (hbox); have n2_ := Aside0.mk ((by rw [hg]; exact (below_size (by repeat (first | (with_reducible first | exact HB.out | apply below_alloc | apply pw_below_drewN | apply below_drew1) | exact HB.out))) : w.heap.size ≤ gb378)); have n3_ := Aside0.mk ((by rw [hg]; exact (below_size (by repeat (first | (with_reducible first | exact HB.out | apply below_alloc | apply pw_below_drewN | apply below_drew1) | exact HB.out))) : w.heap.size ≤ gb378)); clear HB; have HB := n0_; have BK378 := n1_; have GW378 := n2_; have GE378 := n3_; clear n0_ n1_ n2_ n3_; clear hb hbox hg) | ((with_reducible refine gate_callee (f := 37) rfl ?_); refine goesL_ (some 10) rfl rfl Tryd.func37 (by kernel_rfl) rfl #[.slice A0 l0.length c0] rfl (by (try simp only [List.map_toArray, List.map_cons, List.map_nil]); first | done | rfl | (simp only [List.length_drop, List.length_take]; rfl)) ?_; (with_reducible refine (vellumref02_Begins.calls k _ _ l0 t379 t380 t381 t382 _ ?side1 ?side2 ?side3 A3.out).mono ?_); (case side1 => repeat (first | exact (Kd.C_below HR0.out HB.out) | (with_reducible refine Kd.C_alloc ?_ _) | (with_reducible refine Kd.C_drewN ?_ _) | (with_reducible refine Kd.C_drew ?_))); (case side2 => exact HC0.out); (case side3 => exact Glob.below HG.out (by repeat (first | (with_reducible first | exact HB.out | apply below_alloc | apply pw_below_drewN | apply below_drew1 | refine below_set ?_ GE378.out) | exact HB.out))); rintro e w13 ⟨rfl, hb⟩; refine ⟨_, rfl, ?_⟩; have n0_ := Aside0.mk (blk_below (g := gb378) (o := .cells #[.string (⟨#[]⟩ : ByteArray), .string (⟨#[]⟩ : ByteArray), .bool false] 32 (0, 0)) (by (with_reducible repeat (first | refine blk_drewN ?_ _ | refine blk_drew ?_ | refine blk_alloc ?_ _)); exact BK378.out) hb); have n1_ := Aside0.mk (below_step (by repeat (first | (with_reducible first | exact HB.out | apply below_alloc | apply pw_below_drewN | apply below_drew1 | refine below_set ?_ GE378.out) | exact HB.out)) hb); clear BK378; clear HB; have BK378 := n0_; have HB := n1_; clear n0_ n1_; (try clear hb); (try clear hb2); (try clear hk); (try clear hi)) | ((with_reducible refine gate_dst (N := 6) rfl ?_); refine box_event ?hg (N := 6) ?hd (cs := #[.string (⟨#[]⟩ : ByteArray), .string (⟨#[]⟩ : ByteArray), .bool false]) (t := 32) ?hr ?_; (case hd => rfl); (case hg => rfl); (case hr => first | (go_simp; done) | (go_simp; rfl)); intro gb383 hg w14 hbox hb; have n0_ := Aside0.mk (blk_below (g := gb378) (o := .cells #[.string (⟨#[]⟩ : ByteArray), .string (⟨#[]⟩ : ByteArray), .bool false] 32 (0, 0)) (by (with_reducible repeat (first | refine blk_drewN ?_ _ | refine blk_drew ?_ | refine blk_alloc ?_ _)); exact BK378.out) hb); have n1_ := Aside0.mk (below_step (by repeat (first | (with_reducible first | exact HB.out | apply below_alloc | apply pw_below_drewN | apply below_drew1 | refine below_set ?_ GE378.out) | exact HB.out)) hb); have n2_ := Aside0.mk (hbox); have n3_ := Aside0.mk ((by rw [hg]; exact (below_size (by repeat (first | (with_reducible first | exact HB.out | apply below_alloc | apply pw_below_drewN | apply below_drew1 | refine below_set ?_ GE378.out) | exact HB.out))) : w.heap.size ≤ gb383)); have n4_ := Aside0.mk ((by rw [hg]; exact (below_size (by repeat (first | (with_reducible first | exact HB.out | apply below_alloc | apply pw_below_drewN | apply below_drew1 | refine below_set ?_ GE378.out) | exact HB.out))) : w.heap.size ≤ gb383)); have n5_ := Aside0.mk ((by rw [hg]; exact Nat.ne_of_lt (blk_lt (g := gb378) (o := .cells #[.string (⟨#[]⟩ : ByteArray), .string (⟨#[]⟩ : ByteArray), .bool false] 32 (0, 0)) (by (with_reducible repeat (first | refine blk_drewN ?_ _ | refine blk_drew ?_ | refine blk_alloc ?_ _)); exact BK378.out)) : gb378 ≠ gb383)); have n6_ := Aside0.mk ((by rw [hg]; exact Nat.ne_of_gt (blk_lt (g := gb378) (o := .cells #[.string (⟨#[]⟩ : ByteArray), .string (⟨#[]⟩ : ByteArray), .bool false] 32 (0, 0)) (by (with_reducible repeat (first | refine blk_drewN ?_ _ | refine blk_drew ?_ | refine blk_alloc ?_ _)); exact BK378.out)) : gb383 ≠ gb378)); clear BK378; clear HB; have BK378 := n0_; have HB := n1_; have BK383 := n2_; have GW383 := n3_; have GE383 := n4_; have NB378_383 := n5_; have NB383_378 := n6_; clear n0_ n1_ n2_ n3_ n4_ n5_ n6_; clear hb hbox hg; have hnb15 := NB383_378.out; have hnc15 := NB378_383.out; have hcz16_0 : w14.cell? ⟨gb383, 0, none⟩ = some (.string (⟨#[]⟩ : ByteArray)) := (blk_cell BK383.out 0).trans rfl; have hcz16_1 : w14.cell? ⟨gb383, 1, none⟩ = some (.string (⟨#[]⟩ : ByteArray)) := (blk_cell BK383.out 1).trans rfl; have hcz16_2 : w14.cell? ⟨gb383, 2, none⟩ = some (.bool false) := (blk_cell BK383.out 2).trans rfl; have hfz16_0 := blk_frozen BK383.out 0; have hfz16_1 := blk_frozen BK383.out 1; have hfz16_2 := blk_frozen BK383.out 2; have hcz17_0 : w14.cell? ⟨gb378, 0, none⟩ = some (.string (⟨#[]⟩ : ByteArray)) := (blk_cell BK378.out 0).trans rfl; have hcz17_1 : w14.cell? ⟨gb378, 1, none⟩ = some (.string (⟨#[]⟩ : ByteArray)) := (blk_cell BK378.out 1).trans rfl; have hcz17_2 : w14.cell? ⟨gb378, 2, none⟩ = some (.bool false) := (blk_cell BK378.out 2).trans rfl; have hfz17_0 := blk_frozen BK378.out 0; have hfz17_1 := blk_frozen BK378.out 1; have hfz17_2 := blk_frozen BK378.out 2))
      refine bodyPost_ret (results_ct rfl _ _ gb378 32 #[.string (⟨#[]⟩ : ByteArray), .string t379, .bool false] (0, 0) _ rfl (by (with_reducible repeat (first | refine blk_drewN ?_ _ | refine blk_drew ?_ | refine blk_alloc ?_ _)); refine blk_put (cs := #[.string (⟨#[]⟩ : ByteArray), .string t379, .bool false]) ?_ 2 _ rfl; (with_reducible repeat (first | refine blk_drewN ?_ _ | refine blk_drew ?_ | refine blk_alloc ?_ _)); refine blk_put (cs := #[.string (⟨#[]⟩ : ByteArray), .string (⟨#[]⟩ : ByteArray), .bool false]) ?_ 1 _ rfl; (with_reducible repeat (first | refine blk_drewN ?_ _ | refine blk_drew ?_ | refine blk_alloc ?_ _)); refine blk_put (cs := #[.string (⟨#[]⟩ : ByteArray), .string (⟨#[]⟩ : ByteArray), .bool false]) ?_ 0 _ rfl; (with_reducible repeat (first | refine blk_drewN ?_ _ | refine blk_drew ?_ | refine blk_alloc ?_ _)); refine blk_far ?_ NB378_383.out _; (with_reducible repeat (first | refine blk_drewN ?_ _ | refine blk_drew ?_ | refine blk_alloc ?_ _)); refine blk_far ?_ NB378_383.out _; (with_reducible repeat (first | refine blk_drewN ?_ _ | refine blk_drew ?_ | refine blk_alloc ?_ _)); refine blk_far ?_ NB378_383.out _; (with_reducible repeat (first | refine blk_drewN ?_ _ | refine blk_drew ?_ | refine blk_alloc ?_ _)); exact BK378.out) Tryd.underlying32 rfl (by kernel_rfl)) rfl ?_
      exact ⟨by first | rfl | (simp [errW_none, errW_some] <;> rfl) | (simp [*, errW_none, errW_some] <;> rfl), by repeat (first | (with_reducible first | exact HB.out | apply below_alloc | apply pw_below_drewN | apply below_drew1 | refine below_set ?_ GE378.out | refine below_set ?_ GE383.out) | exact HB.out)⟩
  · rw [if_neg c4] at H
    have c4b0 : (t382 == 0) = false := beq_eq_false_iff_ne.mpr c4
    have c4b1 : (t382 != 0) = true := bne_iff_ne.mpr c4
    simp only [Option.some.injEq, Prod.mk.injEq] at H
    obtain ⟨rfl, rfl, rfl, rfl⟩ := H
    go_enter Tryd.func41, Tryd.ntmps41
    go_wp2_with (first | ((with_reducible refine gate_dst (N := 4) rfl ?_); refine box_event ?hg (N := 4) ?hd (cs := #[.string (⟨#[]⟩ : ByteArray), .string (⟨#[]⟩ : ByteArray), .bool false]) (t := 32) ?hr ?_; (case hd => rfl); (case hg => rfl); (case hr => first | (go_simp; done) | (go_simp; rfl)); intro gb378 hg w18 hbox hb; have n0_ := Aside0.mk (below_step (by repeat (first | (with_reducible first | exact HB.out | apply below_alloc | apply pw_below_drewN | apply below_drew1) | exact HB.out)) hb); have n1_ := Aside0.mk (hbox); have n2_ := Aside0.mk ((by rw [hg]; exact (below_size (by repeat (first | (with_reducible first | exact HB.out | apply below_alloc | apply pw_below_drewN | apply below_drew1) | exact HB.out))) : w.heap.size ≤ gb378)); have n3_ := Aside0.mk ((by rw [hg]; exact (below_size (by repeat (first | (with_reducible first | exact HB.out | apply below_alloc | apply pw_below_drewN | apply below_drew1) | exact HB.out))) : w.heap.size ≤ gb378)); clear HB; have HB := n0_; have BK378 := n1_; have GW378 := n2_; have GE378 := n3_; clear n0_ n1_ n2_ n3_; clear hb hbox hg) | ((with_reducible refine gate_callee (f := 37) rfl ?_); refine goesL_ (some 10) rfl rfl Tryd.func37 (by kernel_rfl) rfl #[.slice A0 l0.length c0] rfl (by (try simp only [List.map_toArray, List.map_cons, List.map_nil]); first | done | rfl | (simp only [List.length_drop, List.length_take]; rfl)) ?_; (with_reducible refine (vellumref02_Begins.calls k _ _ l0 t379 t380 t381 t382 _ ?side1 ?side2 ?side3 A3.out).mono ?_); (case side1 => repeat (first | exact (Kd.C_below HR0.out HB.out) | (with_reducible refine Kd.C_alloc ?_ _) | (with_reducible refine Kd.C_drewN ?_ _) | (with_reducible refine Kd.C_drew ?_))); (case side2 => exact HC0.out); (case side3 => exact Glob.below HG.out (by repeat (first | (with_reducible first | exact HB.out | apply below_alloc | apply pw_below_drewN | apply below_drew1 | refine below_set ?_ GE378.out) | exact HB.out))); rintro e w19 ⟨rfl, hb⟩; refine ⟨_, rfl, ?_⟩; have n0_ := Aside0.mk (blk_below (g := gb378) (o := .cells #[.string (⟨#[]⟩ : ByteArray), .string (⟨#[]⟩ : ByteArray), .bool false] 32 (0, 0)) (by (with_reducible repeat (first | refine blk_drewN ?_ _ | refine blk_drew ?_ | refine blk_alloc ?_ _)); exact BK378.out) hb); have n1_ := Aside0.mk (below_step (by repeat (first | (with_reducible first | exact HB.out | apply below_alloc | apply pw_below_drewN | apply below_drew1 | refine below_set ?_ GE378.out) | exact HB.out)) hb); clear BK378; clear HB; have BK378 := n0_; have HB := n1_; clear n0_ n1_; (try clear hb); (try clear hb2); (try clear hk); (try clear hi)) | ((with_reducible refine gate_dst (N := 6) rfl ?_); refine box_event ?hg (N := 6) ?hd (cs := #[.string (⟨#[]⟩ : ByteArray), .string (⟨#[]⟩ : ByteArray), .bool false]) (t := 32) ?hr ?_; (case hd => rfl); (case hg => rfl); (case hr => first | (go_simp; done) | (go_simp; rfl)); intro gb383 hg w20 hbox hb; have n0_ := Aside0.mk (blk_below (g := gb378) (o := .cells #[.string (⟨#[]⟩ : ByteArray), .string (⟨#[]⟩ : ByteArray), .bool false] 32 (0, 0)) (by (with_reducible repeat (first | refine blk_drewN ?_ _ | refine blk_drew ?_ | refine blk_alloc ?_ _)); exact BK378.out) hb); have n1_ := Aside0.mk (below_step (by repeat (first | (with_reducible first | exact HB.out | apply below_alloc | apply pw_below_drewN | apply below_drew1 | refine below_set ?_ GE378.out) | exact HB.out)) hb); have n2_ := Aside0.mk (hbox); have n3_ := Aside0.mk ((by rw [hg]; exact (below_size (by repeat (first | (with_reducible first | exact HB.out | apply below_alloc | apply pw_below_drewN | apply below_drew1 | refine below_set ?_ GE378.out) | exact HB.out))) : w.heap.size ≤ gb383)); have n4_ := Aside0.mk ((by rw [hg]; exact (below_size (by repeat (first | (with_reducible first | exact HB.out | apply below_alloc | apply pw_below_drewN | apply below_drew1 | refine below_set ?_ GE378.out) | exact HB.out))) : w.heap.size ≤ gb383)); have n5_ := Aside0.mk ((by rw [hg]; exact Nat.ne_of_lt (blk_lt (g := gb378) (o := .cells #[.string (⟨#[]⟩ : ByteArray), .string (⟨#[]⟩ : ByteArray), .bool false] 32 (0, 0)) (by (with_reducible repeat (first | refine blk_drewN ?_ _ | refine blk_drew ?_ | refine blk_alloc ?_ _)); exact BK378.out)) : gb378 ≠ gb383)); have n6_ := Aside0.mk ((by rw [hg]; exact Nat.ne_of_gt (blk_lt (g := gb378) (o := .cells #[.string (⟨#[]⟩ : ByteArray), .string (⟨#[]⟩ : ByteArray), .bool false] 32 (0, 0)) (by (with_reducible repeat (first | refine blk_drewN ?_ _ | refine blk_drew ?_ | refine blk_alloc ?_ _)); exact BK378.out)) : gb383 ≠ gb378)); clear BK378; clear HB; have BK378 := n0_; have HB := n1_; have BK383 := n2_; have GW383 := n3_; have GE383 := n4_; have NB378_383 := n5_; have NB383_378 := n6_; clear n0_ n1_ n2_ n3_ n4_ n5_ n6_; clear hb hbox hg; have hnb21 := NB383_378.out; have hnc21 := NB378_383.out; have hcz22_0 : w20.cell? ⟨gb383, 0, none⟩ = some (.string (⟨#[]⟩ : ByteArray)) := (blk_cell BK383.out 0).trans rfl; have hcz22_1 : w20.cell? ⟨gb383, 1, none⟩ = some (.string (⟨#[]⟩ : ByteArray)) := (blk_cell BK383.out 1).trans rfl; have hcz22_2 : w20.cell? ⟨gb383, 2, none⟩ = some (.bool false) := (blk_cell BK383.out 2).trans rfl; have hfz22_0 := blk_frozen BK383.out 0; have hfz22_1 := blk_frozen BK383.out 1; have hfz22_2 := blk_frozen BK383.out 2; have hcz23_0 : w20.cell? ⟨gb378, 0, none⟩ = some (.string (⟨#[]⟩ : ByteArray)) := (blk_cell BK378.out 0).trans rfl; have hcz23_1 : w20.cell? ⟨gb378, 1, none⟩ = some (.string (⟨#[]⟩ : ByteArray)) := (blk_cell BK378.out 1).trans rfl; have hcz23_2 : w20.cell? ⟨gb378, 2, none⟩ = some (.bool false) := (blk_cell BK378.out 2).trans rfl; have hfz23_0 := blk_frozen BK378.out 0; have hfz23_1 := blk_frozen BK378.out 1; have hfz23_2 := blk_frozen BK378.out 2))
    refine bodyPost_ret (results_ct rfl _ _ gb378 32 #[.string t379, .string t380, .bool t381] (0, 0) _ rfl (by (with_reducible repeat (first | refine blk_drewN ?_ _ | refine blk_drew ?_ | refine blk_alloc ?_ _)); refine blk_put (cs := #[.string t379, .string t380, .bool false]) ?_ 2 _ rfl; (with_reducible repeat (first | refine blk_drewN ?_ _ | refine blk_drew ?_ | refine blk_alloc ?_ _)); refine blk_put (cs := #[.string t379, .string (⟨#[]⟩ : ByteArray), .bool false]) ?_ 1 _ rfl; (with_reducible repeat (first | refine blk_drewN ?_ _ | refine blk_drew ?_ | refine blk_alloc ?_ _)); refine blk_put (cs := #[.string (⟨#[]⟩ : ByteArray), .string (⟨#[]⟩ : ByteArray), .bool false]) ?_ 0 _ rfl; (with_reducible repeat (first | refine blk_drewN ?_ _ | refine blk_drew ?_ | refine blk_alloc ?_ _)); refine blk_far ?_ NB378_383.out _; (with_reducible repeat (first | refine blk_drewN ?_ _ | refine blk_drew ?_ | refine blk_alloc ?_ _)); refine blk_far ?_ NB378_383.out _; (with_reducible repeat (first | refine blk_drewN ?_ _ | refine blk_drew ?_ | refine blk_alloc ?_ _)); refine blk_far ?_ NB378_383.out _; (with_reducible repeat (first | refine blk_drewN ?_ _ | refine blk_drew ?_ | refine blk_alloc ?_ _)); exact BK378.out) Tryd.underlying32 rfl (by kernel_rfl)) rfl ?_
    exact ⟨by first | rfl | (simp [errW_none, errW_some] <;> rfl) | (simp [*, errW_none, errW_some] <;> rfl), by repeat (first | (with_reducible first | exact HB.out | apply below_alloc | apply pw_below_drewN | apply below_drew1 | refine below_set ?_ GE378.out | refine below_set ?_ GE383.out) | exact HB.out)⟩
end Go.Proofs.YtpiifdbicibelaaDoor.PA
end
section
namespace Go.Proofs.YtpiifdbicibelaaDoor.PA
open Go.RowKit Go.Proofs Go.Proofs.YtpiifdbicibelaaDoorW.PrintWords Go.Proofs.YtpiifdbicibelaaDoorW.PrintLast Go.Proofs.YtpiifdbicibelaaDoorW.PrintMore
set_option linter.unusedVariables false
set_option linter.unusedSimpArgs false
/-- What both sides tell of the ranges is the same; then the answer is awake's. -/
def vellumlaw02_CodeRanges.f (k : Nat) (l0 : List S50) (a1 : Bool) : Option Bool :=
  (code_Begins.f k l0).bind fun a => (vellumref02_Begins.f k l0).bind fun b => (code_From.f k l0 a1).bind fun c => (vellumref02_From.f k l0 a1).bind fun d => (code_To.f k l0 a1).bind fun x => (vellumref02_To.f k l0 a1).bind fun y =>
    if a = b ∧ c = d ∧ x = y then vellumlaw02_awake.f k else none
set_option maxHeartbeats 8000000 in
set_option maxRecDepth 100000 in
theorem vellumlaw02_CodeRanges.calls (k : Nat) (A0 : Option Addr) (c0 : Nat) (l0 : List (S50)) (a1 : Bool) (r : Bool) (w : World) (hr0 : Kd.C k50 w A0 l0.length l0) (hc0 : l0.length ≤ c0) (hG : Glob w) (h : vellumlaw02_CodeRanges.f k l0 a1 = some r) :
    Calls Tryd.prog 6 #[.slice A0 l0.length c0, .bool a1] w fun e w' => e = .returned (.bool r) ∧ Below w.heap.size w w' := by
  unfold vellumlaw02_CodeRanges.f at h
  obtain ⟨⟨p1, p2, p3, p4⟩, e1, h1⟩ := Option.bind_eq_some_iff.1 h
  clear h
  obtain ⟨⟨q1, q2, q3, q4⟩, e2, h2⟩ := Option.bind_eq_some_iff.1 h1
  clear h1
  obtain ⟨⟨p5, p6, p7, p8⟩, e3, h3⟩ := Option.bind_eq_some_iff.1 h2
  clear h2
  obtain ⟨⟨q5, q6, q7, q8⟩, e4, h4⟩ := Option.bind_eq_some_iff.1 h3
  clear h3
  obtain ⟨⟨p9, p10, p11, p12⟩, e5, h5⟩ := Option.bind_eq_some_iff.1 h4
  clear h4
  obtain ⟨⟨q9, q10, q11, q12⟩, e6, h6⟩ := Option.bind_eq_some_iff.1 h5
  clear h5
  split at h6
  case isFalse => cases h6
  rename_i heq
  simp only [Prod.mk.injEq] at heq
  obtain ⟨⟨rfl, rfl, rfl, rfl⟩, ⟨rfl, rfl, rfl, rfl⟩, rfl, rfl, rfl, rfl⟩ := heq
  have E1 := Aside0.mk e1
  have E2 := Aside0.mk e2
  have E3 := Aside0.mk e3
  have E4 := Aside0.mk e4
  have E5 := Aside0.mk e5
  have E6 := Aside0.mk e6
  have HW := Aside0.mk h6
  have HR := Aside0.mk hr0
  have HC := Aside0.mk hc0
  have HG := Aside0.mk hG
  clear e1 e2 e3 e4 e5 e6 h6 hr0 hc0 hG
  have hcb : ∀ {w2 : World}, Below w.heap.size w w2 → Kd.C k50 w2 A0 l0.length l0 := fun hb => by first | exact Kd.C_below HR.out hb | exact Kd.C_below hb HR.out
  have HCB := Aside0.mk @hcb
  clear hcb
  go_enter Tryd.func6, Tryd.ntmps6
  go_wp2_with fail
  refine (code_Begins.calls k A0 c0 l0 _ _ _ _ _ (HCB.out (Below.refl _ w)) HC.out (HG.out.below (Below.refl _ w)) E1.out).mono ?_
  rintro e w1 ⟨rfl, hb1⟩
  have BT1 := Aside0.mk hb1
  clear hb1
  go_wp2_with fail
  refine (vellumref02_Begins.calls k A0 c0 l0 _ _ _ _ _ (HCB.out ((BT1.out.alloc (BT1.out.size) _))) HC.out (HG.out.below ((BT1.out.alloc (BT1.out.size) _))) E2.out).mono ?_
  rintro e w2 ⟨rfl, hb2⟩
  have BT2 := Aside0.mk (Below.trans ((BT1.out.alloc (BT1.out.size) _)) (hb2.mono (by have := BT1.out.size; simp; omega)))
  have z2 : w1.heap.size < w2.heap.size := by have := hb2.size; simp at this; omega
  have b1_0 := (hb2.cell (p := ⟨w1.heap.size, 0, none⟩) (by simp)).trans (show _ = some _ by simp; rfl)
  have b1_1 := (hb2.cell (p := ⟨w1.heap.size, 1, none⟩) (by simp)).trans (show _ = some _ by simp; rfl)
  have b1_2 := (hb2.cell (p := ⟨w1.heap.size, 2, none⟩) (by simp)).trans (show _ = some _ by simp; rfl)
  clear hb2
  go_wp2_with fail
  refine (code_From.calls k A0 c0 l0 a1 _ _ _ _ _ (HCB.out ((BT2.out.alloc (BT2.out.size) _))) HC.out (HG.out.below ((BT2.out.alloc (BT2.out.size) _))) E3.out).mono ?_
  rintro e w3 ⟨rfl, hb3⟩
  have BT3 := Aside0.mk (Below.trans ((BT2.out.alloc (BT2.out.size) _)) (hb3.mono (by have := BT2.out.size; simp; omega)))
  have z3 : w2.heap.size < w3.heap.size := by have := hb3.size; simp at this; omega
  have b2_0 := (hb3.cell (p := ⟨w2.heap.size, 0, none⟩) (by simp)).trans (show _ = some _ by simp; rfl)
  have b2_1 := (hb3.cell (p := ⟨w2.heap.size, 1, none⟩) (by simp)).trans (show _ = some _ by simp; rfl)
  have b2_2 := (hb3.cell (p := ⟨w2.heap.size, 2, none⟩) (by simp)).trans (show _ = some _ by simp; rfl)
  replace b1_0 := (hb3.cell (p := ⟨w1.heap.size, 0, none⟩) (by simp; omega)).trans ((World.cell?_alloc_lt _ _ _ (by show w1.heap.size < w2.heap.size; omega)).trans b1_0)
  replace b1_1 := (hb3.cell (p := ⟨w1.heap.size, 1, none⟩) (by simp; omega)).trans ((World.cell?_alloc_lt _ _ _ (by show w1.heap.size < w2.heap.size; omega)).trans b1_1)
  replace b1_2 := (hb3.cell (p := ⟨w1.heap.size, 2, none⟩) (by simp; omega)).trans ((World.cell?_alloc_lt _ _ _ (by show w1.heap.size < w2.heap.size; omega)).trans b1_2)
  clear hb3
  go_wp2_with fail
  refine (vellumref02_From.calls k A0 c0 l0 a1 _ _ _ _ _ (HCB.out ((BT3.out.alloc (BT3.out.size) _))) HC.out (HG.out.below ((BT3.out.alloc (BT3.out.size) _))) E4.out).mono ?_
  rintro e w4 ⟨rfl, hb4⟩
  have BT4 := Aside0.mk (Below.trans ((BT3.out.alloc (BT3.out.size) _)) (hb4.mono (by have := BT3.out.size; simp; omega)))
  have z4 : w3.heap.size < w4.heap.size := by have := hb4.size; simp at this; omega
  have b3_0 := (hb4.cell (p := ⟨w3.heap.size, 0, none⟩) (by simp)).trans (show _ = some _ by simp; rfl)
  have b3_1 := (hb4.cell (p := ⟨w3.heap.size, 1, none⟩) (by simp)).trans (show _ = some _ by simp; rfl)
  have b3_2 := (hb4.cell (p := ⟨w3.heap.size, 2, none⟩) (by simp)).trans (show _ = some _ by simp; rfl)
  replace b1_0 := (hb4.cell (p := ⟨w1.heap.size, 0, none⟩) (by simp; omega)).trans ((World.cell?_alloc_lt _ _ _ (by show w1.heap.size < w3.heap.size; omega)).trans b1_0)
  replace b1_1 := (hb4.cell (p := ⟨w1.heap.size, 1, none⟩) (by simp; omega)).trans ((World.cell?_alloc_lt _ _ _ (by show w1.heap.size < w3.heap.size; omega)).trans b1_1)
  replace b1_2 := (hb4.cell (p := ⟨w1.heap.size, 2, none⟩) (by simp; omega)).trans ((World.cell?_alloc_lt _ _ _ (by show w1.heap.size < w3.heap.size; omega)).trans b1_2)
  replace b2_0 := (hb4.cell (p := ⟨w2.heap.size, 0, none⟩) (by simp; omega)).trans ((World.cell?_alloc_lt _ _ _ (by show w2.heap.size < w3.heap.size; omega)).trans b2_0)
  replace b2_1 := (hb4.cell (p := ⟨w2.heap.size, 1, none⟩) (by simp; omega)).trans ((World.cell?_alloc_lt _ _ _ (by show w2.heap.size < w3.heap.size; omega)).trans b2_1)
  replace b2_2 := (hb4.cell (p := ⟨w2.heap.size, 2, none⟩) (by simp; omega)).trans ((World.cell?_alloc_lt _ _ _ (by show w2.heap.size < w3.heap.size; omega)).trans b2_2)
  clear hb4
  go_wp2_with fail
  refine (code_To.calls k A0 c0 l0 a1 _ _ _ _ _ (HCB.out ((BT4.out.alloc (BT4.out.size) _))) HC.out (HG.out.below ((BT4.out.alloc (BT4.out.size) _))) E5.out).mono ?_
  rintro e w5 ⟨rfl, hb5⟩
  have BT5 := Aside0.mk (Below.trans ((BT4.out.alloc (BT4.out.size) _)) (hb5.mono (by have := BT4.out.size; simp; omega)))
  have z5 : w4.heap.size < w5.heap.size := by have := hb5.size; simp at this; omega
  have b4_0 := (hb5.cell (p := ⟨w4.heap.size, 0, none⟩) (by simp)).trans (show _ = some _ by simp; rfl)
  have b4_1 := (hb5.cell (p := ⟨w4.heap.size, 1, none⟩) (by simp)).trans (show _ = some _ by simp; rfl)
  have b4_2 := (hb5.cell (p := ⟨w4.heap.size, 2, none⟩) (by simp)).trans (show _ = some _ by simp; rfl)
  replace b1_0 := (hb5.cell (p := ⟨w1.heap.size, 0, none⟩) (by simp; omega)).trans ((World.cell?_alloc_lt _ _ _ (by show w1.heap.size < w4.heap.size; omega)).trans b1_0)
  replace b1_1 := (hb5.cell (p := ⟨w1.heap.size, 1, none⟩) (by simp; omega)).trans ((World.cell?_alloc_lt _ _ _ (by show w1.heap.size < w4.heap.size; omega)).trans b1_1)
  replace b1_2 := (hb5.cell (p := ⟨w1.heap.size, 2, none⟩) (by simp; omega)).trans ((World.cell?_alloc_lt _ _ _ (by show w1.heap.size < w4.heap.size; omega)).trans b1_2)
  replace b2_0 := (hb5.cell (p := ⟨w2.heap.size, 0, none⟩) (by simp; omega)).trans ((World.cell?_alloc_lt _ _ _ (by show w2.heap.size < w4.heap.size; omega)).trans b2_0)
  replace b2_1 := (hb5.cell (p := ⟨w2.heap.size, 1, none⟩) (by simp; omega)).trans ((World.cell?_alloc_lt _ _ _ (by show w2.heap.size < w4.heap.size; omega)).trans b2_1)
  replace b2_2 := (hb5.cell (p := ⟨w2.heap.size, 2, none⟩) (by simp; omega)).trans ((World.cell?_alloc_lt _ _ _ (by show w2.heap.size < w4.heap.size; omega)).trans b2_2)
  replace b3_0 := (hb5.cell (p := ⟨w3.heap.size, 0, none⟩) (by simp; omega)).trans ((World.cell?_alloc_lt _ _ _ (by show w3.heap.size < w4.heap.size; omega)).trans b3_0)
  replace b3_1 := (hb5.cell (p := ⟨w3.heap.size, 1, none⟩) (by simp; omega)).trans ((World.cell?_alloc_lt _ _ _ (by show w3.heap.size < w4.heap.size; omega)).trans b3_1)
  replace b3_2 := (hb5.cell (p := ⟨w3.heap.size, 2, none⟩) (by simp; omega)).trans ((World.cell?_alloc_lt _ _ _ (by show w3.heap.size < w4.heap.size; omega)).trans b3_2)
  clear hb5
  go_wp2_with fail
  refine (vellumref02_To.calls k A0 c0 l0 a1 _ _ _ _ _ (HCB.out ((BT5.out.alloc (BT5.out.size) _))) HC.out (HG.out.below ((BT5.out.alloc (BT5.out.size) _))) E6.out).mono ?_
  rintro e w6 ⟨rfl, hb6⟩
  have BT6 := Aside0.mk (Below.trans ((BT5.out.alloc (BT5.out.size) _)) (hb6.mono (by have := BT5.out.size; simp; omega)))
  have z6 : w5.heap.size < w6.heap.size := by have := hb6.size; simp at this; omega
  have b5_0 := (hb6.cell (p := ⟨w5.heap.size, 0, none⟩) (by simp)).trans (show _ = some _ by simp; rfl)
  have b5_1 := (hb6.cell (p := ⟨w5.heap.size, 1, none⟩) (by simp)).trans (show _ = some _ by simp; rfl)
  have b5_2 := (hb6.cell (p := ⟨w5.heap.size, 2, none⟩) (by simp)).trans (show _ = some _ by simp; rfl)
  replace b1_0 := (hb6.cell (p := ⟨w1.heap.size, 0, none⟩) (by simp; omega)).trans ((World.cell?_alloc_lt _ _ _ (by show w1.heap.size < w5.heap.size; omega)).trans b1_0)
  replace b1_1 := (hb6.cell (p := ⟨w1.heap.size, 1, none⟩) (by simp; omega)).trans ((World.cell?_alloc_lt _ _ _ (by show w1.heap.size < w5.heap.size; omega)).trans b1_1)
  replace b1_2 := (hb6.cell (p := ⟨w1.heap.size, 2, none⟩) (by simp; omega)).trans ((World.cell?_alloc_lt _ _ _ (by show w1.heap.size < w5.heap.size; omega)).trans b1_2)
  replace b2_0 := (hb6.cell (p := ⟨w2.heap.size, 0, none⟩) (by simp; omega)).trans ((World.cell?_alloc_lt _ _ _ (by show w2.heap.size < w5.heap.size; omega)).trans b2_0)
  replace b2_1 := (hb6.cell (p := ⟨w2.heap.size, 1, none⟩) (by simp; omega)).trans ((World.cell?_alloc_lt _ _ _ (by show w2.heap.size < w5.heap.size; omega)).trans b2_1)
  replace b2_2 := (hb6.cell (p := ⟨w2.heap.size, 2, none⟩) (by simp; omega)).trans ((World.cell?_alloc_lt _ _ _ (by show w2.heap.size < w5.heap.size; omega)).trans b2_2)
  replace b3_0 := (hb6.cell (p := ⟨w3.heap.size, 0, none⟩) (by simp; omega)).trans ((World.cell?_alloc_lt _ _ _ (by show w3.heap.size < w5.heap.size; omega)).trans b3_0)
  replace b3_1 := (hb6.cell (p := ⟨w3.heap.size, 1, none⟩) (by simp; omega)).trans ((World.cell?_alloc_lt _ _ _ (by show w3.heap.size < w5.heap.size; omega)).trans b3_1)
  replace b3_2 := (hb6.cell (p := ⟨w3.heap.size, 2, none⟩) (by simp; omega)).trans ((World.cell?_alloc_lt _ _ _ (by show w3.heap.size < w5.heap.size; omega)).trans b3_2)
  replace b4_0 := (hb6.cell (p := ⟨w4.heap.size, 0, none⟩) (by simp; omega)).trans ((World.cell?_alloc_lt _ _ _ (by show w4.heap.size < w5.heap.size; omega)).trans b4_0)
  replace b4_1 := (hb6.cell (p := ⟨w4.heap.size, 1, none⟩) (by simp; omega)).trans ((World.cell?_alloc_lt _ _ _ (by show w4.heap.size < w5.heap.size; omega)).trans b4_1)
  replace b4_2 := (hb6.cell (p := ⟨w4.heap.size, 2, none⟩) (by simp; omega)).trans ((World.cell?_alloc_lt _ _ _ (by show w4.heap.size < w5.heap.size; omega)).trans b4_2)
  clear hb6
  have g1_0 : (w6.alloc (.cells #[.string p9, .string p10, .bool p11] 32)).cell? ⟨w1.heap.size, 0, none⟩ = some (.string p1) := (World.cell?_alloc_lt _ _ _ (by show w1.heap.size < w6.heap.size; omega)).trans b1_0
  have g1_1 : (w6.alloc (.cells #[.string p9, .string p10, .bool p11] 32)).cell? ⟨w1.heap.size, 1, none⟩ = some (.string p2) := (World.cell?_alloc_lt _ _ _ (by show w1.heap.size < w6.heap.size; omega)).trans b1_1
  have g1_2 : (w6.alloc (.cells #[.string p9, .string p10, .bool p11] 32)).cell? ⟨w1.heap.size, 2, none⟩ = some (.bool p3) := (World.cell?_alloc_lt _ _ _ (by show w1.heap.size < w6.heap.size; omega)).trans b1_2
  have g2_0 : (w6.alloc (.cells #[.string p9, .string p10, .bool p11] 32)).cell? ⟨w2.heap.size, 0, none⟩ = some (.string p1) := (World.cell?_alloc_lt _ _ _ (by show w2.heap.size < w6.heap.size; omega)).trans b2_0
  have g2_1 : (w6.alloc (.cells #[.string p9, .string p10, .bool p11] 32)).cell? ⟨w2.heap.size, 1, none⟩ = some (.string p2) := (World.cell?_alloc_lt _ _ _ (by show w2.heap.size < w6.heap.size; omega)).trans b2_1
  have g2_2 : (w6.alloc (.cells #[.string p9, .string p10, .bool p11] 32)).cell? ⟨w2.heap.size, 2, none⟩ = some (.bool p3) := (World.cell?_alloc_lt _ _ _ (by show w2.heap.size < w6.heap.size; omega)).trans b2_2
  have g3_0 : (w6.alloc (.cells #[.string p9, .string p10, .bool p11] 32)).cell? ⟨w3.heap.size, 0, none⟩ = some (.string p5) := (World.cell?_alloc_lt _ _ _ (by show w3.heap.size < w6.heap.size; omega)).trans b3_0
  have g3_1 : (w6.alloc (.cells #[.string p9, .string p10, .bool p11] 32)).cell? ⟨w3.heap.size, 1, none⟩ = some (.string p6) := (World.cell?_alloc_lt _ _ _ (by show w3.heap.size < w6.heap.size; omega)).trans b3_1
  have g3_2 : (w6.alloc (.cells #[.string p9, .string p10, .bool p11] 32)).cell? ⟨w3.heap.size, 2, none⟩ = some (.bool p7) := (World.cell?_alloc_lt _ _ _ (by show w3.heap.size < w6.heap.size; omega)).trans b3_2
  have g4_0 : (w6.alloc (.cells #[.string p9, .string p10, .bool p11] 32)).cell? ⟨w4.heap.size, 0, none⟩ = some (.string p5) := (World.cell?_alloc_lt _ _ _ (by show w4.heap.size < w6.heap.size; omega)).trans b4_0
  have g4_1 : (w6.alloc (.cells #[.string p9, .string p10, .bool p11] 32)).cell? ⟨w4.heap.size, 1, none⟩ = some (.string p6) := (World.cell?_alloc_lt _ _ _ (by show w4.heap.size < w6.heap.size; omega)).trans b4_1
  have g4_2 : (w6.alloc (.cells #[.string p9, .string p10, .bool p11] 32)).cell? ⟨w4.heap.size, 2, none⟩ = some (.bool p7) := (World.cell?_alloc_lt _ _ _ (by show w4.heap.size < w6.heap.size; omega)).trans b4_2
  have g5_0 : (w6.alloc (.cells #[.string p9, .string p10, .bool p11] 32)).cell? ⟨w5.heap.size, 0, none⟩ = some (.string p9) := (World.cell?_alloc_lt _ _ _ (by show w5.heap.size < w6.heap.size; omega)).trans b5_0
  have g5_1 : (w6.alloc (.cells #[.string p9, .string p10, .bool p11] 32)).cell? ⟨w5.heap.size, 1, none⟩ = some (.string p10) := (World.cell?_alloc_lt _ _ _ (by show w5.heap.size < w6.heap.size; omega)).trans b5_1
  have g5_2 : (w6.alloc (.cells #[.string p9, .string p10, .bool p11] 32)).cell? ⟨w5.heap.size, 2, none⟩ = some (.bool p11) := (World.cell?_alloc_lt _ _ _ (by show w5.heap.size < w6.heap.size; omega)).trans b5_2
  clear b1_0 b1_1 b1_2 b2_0 b2_1 b2_2 b3_0 b3_1 b3_2 b4_0 b4_1 b4_2 b5_0 b5_1 b5_2
  have HZ := Aside0.mk (And.intro z2 (And.intro z3 (And.intro z4 (And.intro z5 z6))))
  clear z2 z3 z4 z5 z6
  go_wp2_with fail
  refine (vellumlaw02_awake.calls k r _ (HG.out.below (BT6.out.alloc (BT6.out.size) _)) HW.out).mono ?_
  rintro e w7 ⟨rfl, hb7⟩
  go_wp2
  go_ret
  exact ⟨rfl, Below.trans (BT6.out.alloc (BT6.out.size) _) (hb7.mono (by have := BT6.out.size; simp; omega))⟩
end Go.Proofs.YtpiifdbicibelaaDoor.PA
end
section
namespace Go.Proofs.YtpiifdbicibelaaDoor.Pure
open Go.RowKit Go.Proofs Go.Proofs.YtpiifdbicibelaaDoorW.PrintWords Go.Proofs.YtpiifdbicibelaaDoorW.PrintLast Go.Proofs.YtpiifdbicibelaaDoorW.PrintMore Go.Proofs.YtpiifdbicibelaaDoor.PA Go.Proofs.YtpiifdbicibelaaDoor.OpenK
set_option linter.unusedVariables false
set_option linter.unusedSimpArgs false
theorem encode_size {xs : List S50} (h0 : (encode xs).2 = 0) : (encode xs).1.size ≤ 1024 := by
  obtain ⟨_, he, hn⟩ := encode_ok h0
  have hs : (strOfNums (flat xs)).size = (flat xs).length := by
    rw [← data_length, strOfNums_data]; simp [toB]
  rw [he]; show (strOfNums (flat xs)).size ≤ 1024; omega
/-- What both sides tell of the range of all keys that begin so. -/
def bgn (xs : List S50) : ByteArray × ByteArray × Bool × Int := if (encode xs).2 = 0 then ((encode xs).1, (encode xs).1 ++ (⟨#[255]⟩ : ByteArray), false, 0) else (⟨#[]⟩, ⟨#[]⟩, false, (encode xs).2)
theorem bgn_code {xs : List S50} (hw : ∀ x ∈ xs, wf50 x) (hl : xs.length < 9223372036854775807) : Ev (fun k => code_Begins.f k xs) (bgn xs) := by
  simp only [code_Begins.f, bgn]
  refine Ev.bind (encode_code xs hw hl) ?_
  by_cases h0 : (encode xs).2 = 0
  · have := encode_size h0
    refine Ev.pos h0 (Ev.pos (by omega) ?_)
    rw [if_pos h0]
    exact Ev.pure
  · refine Ev.neg h0 ?_
    rw [if_neg h0]
    exact Ev.pure
theorem bgn_ref {xs : List S50} (hw : ∀ x ∈ xs, wf50 x) (hl : xs.length < 9223372036854775807) : Ev (fun k => vellumref02_Begins.f k xs) (bgn xs) := by
  simp only [vellumref02_Begins.f, bgn]
  refine Ev.bind (encode_ref xs hw hl) ?_
  by_cases h0 : (encode xs).2 = 0
  · have := encode_size h0
    refine Ev.pos h0 (Ev.pos (by omega) ?_)
    rw [if_pos h0]
    exact Ev.pure
  · refine Ev.neg h0 ?_
    rw [if_neg h0]
    exact Ev.pure
theorem from_both {xs : List S50} (a : Bool) (hw : ∀ x ∈ xs, wf50 x) (hl : xs.length < 9223372036854775807) : ∃ r, Ev (fun k => code_From.f k xs a) r ∧ Ev (fun k => vellumref02_From.f k xs a) r := by
  simp only [code_From.f, vellumref02_From.f]
  by_cases h0 : (bgn xs).2.2.2 = 0
  · cases a
    · exact ⟨_, Ev.bind (bgn_code hw hl) (Ev.pos h0 (Ev.neg (by decide) Ev.pure)), Ev.bind (bgn_ref hw hl) (Ev.pos h0 (Ev.neg (by decide) Ev.pure))⟩
    · exact ⟨_, Ev.bind (bgn_code hw hl) (Ev.pos h0 (Ev.pos rfl Ev.pure)), Ev.bind (bgn_ref hw hl) (Ev.pos h0 (Ev.pos rfl Ev.pure))⟩
  · exact ⟨_, Ev.bind (bgn_code hw hl) (Ev.neg h0 Ev.pure), Ev.bind (bgn_ref hw hl) (Ev.neg h0 Ev.pure)⟩
theorem to_both {xs : List S50} (a : Bool) (hw : ∀ x ∈ xs, wf50 x) (hl : xs.length < 9223372036854775807) : ∃ r, Ev (fun k => code_To.f k xs a) r ∧ Ev (fun k => vellumref02_To.f k xs a) r := by
  simp only [code_To.f, vellumref02_To.f]
  by_cases h0 : (bgn xs).2.2.2 = 0
  · cases a
    · exact ⟨_, Ev.bind (bgn_code hw hl) (Ev.pos h0 (Ev.neg (by decide) Ev.pure)), Ev.bind (bgn_ref hw hl) (Ev.pos h0 (Ev.neg (by decide) Ev.pure))⟩
    · exact ⟨_, Ev.bind (bgn_code hw hl) (Ev.pos h0 (Ev.pos rfl Ev.pure)), Ev.bind (bgn_ref hw hl) (Ev.pos h0 (Ev.pos rfl Ev.pure))⟩
  · exact ⟨_, Ev.bind (bgn_code hw hl) (Ev.neg h0 Ev.pure), Ev.bind (bgn_ref hw hl) (Ev.neg h0 Ev.pure)⟩
theorem CodeRanges (l0 : List S50) (a1 : Bool) (h : l0.length * 40 ≤ 140737488351232 ∧ ∀ y ∈ l0, wf50 y) : ∃ k, vellumlaw02_CodeRanges.f k l0 a1 = some true := by
  refine Ev.ex ?_
  simp only [vellumlaw02_CodeRanges.f]
  obtain ⟨c, c1, c2⟩ := from_both a1 h.2 (by omega)
  obtain ⟨x, x1, x2⟩ := to_both a1 h.2 (by omega)
  exact Ev.bind (bgn_code h.2 (by omega)) (Ev.bind (bgn_ref h.2 (by omega)) (Ev.bind c1 (Ev.bind c2 (Ev.bind x1 (Ev.bind x2 (Ev.pos ⟨rfl, rfl, rfl⟩ awake_ev))))))
end Go.Proofs.YtpiifdbicibelaaDoor.Pure
end
section
namespace Go.Proofs.YtpiifdbicibelaaDoor.codeRanges
open Go.ChangeShapes Go.WideShapes Go.ChangeAt Go.RowKit Go.Proofs.YtpiifdbicibelaaDoorW.PrintWords Go.Proofs.YtpiifdbicibelaaDoor.PA Go.Proofs.YtpiifdbicibelaaDoor.OpenK Go.Proofs.YtpiifdbicibelaaDoor.Pure
open Go.ChangeMaps (open_string shut_string)
set_option linter.unusedVariables false
theorem walk {H : Type} {enc : TypeId × Value → H} (W : World) (base : Nat) (args : Array Value) (ds : List (DataW H)) (ps : List MemPlace) (hA0 : DataW.TrodAll enc Tryd.prog W 0 (fun _ => true) true Tryd.f6.params.toList args.toList ds ps)
    (hw0 : (DataW.weightsEach Tryd.prog Tryd.f6.params.toList ds).all (· ≤ reachBytes) = true) (hval0 : ∀ (j : Nat) t v, Tryd.f6.params[j]? = some t → args[j]? = some v → Value.okWide Tryd.prog W .any base t v) (hG : Glob W) :
    Calls Tryd.prog 6 args W fun e W' => e = .returned (.bool true) ∧ Below W.heap.size W W' := by
  have hval : ∀ (j : Nat) t v, Tryd.f6.params[j]? = some t → args[j]? = some v → Value.okWide Tryd.prog W .any base t v := @hval0
  have hA : DataW.TrodAll enc Tryd.prog W 0 (fun _ => true) true Tryd.f6.params.toList args.toList ds ps := hA0
  have hw : (DataW.weightsEach Tryd.prog Tryd.f6.params.toList ds).all (· ≤ reachBytes) = true := hw0
  rw [Tryd.params6] at hA hval hw
  clear hA0 hw0 hval0
  obtain ⟨v0, vs0, d0, ds0, p0, q0, hargs, rfl, rfl, h0, r0⟩ := trodAll_cons hA
  obtain ⟨v1, vs1, d1, ds1, p1, q1, rfl, rfl, rfl, h1, r1⟩ := trodAll_cons r0
  obtain ⟨rfl, rfl, rfl⟩ := trodAll_nil r1
  obtain rfl : args = #[v0, v1] := by cases args; simp_all
  simp only [DataW.weightsEach, all_append_iff] at hw
  obtain ⟨hw0, hw1, _⟩ := hw
  obtain ⟨a0, len0, cap0, rfl⟩ := arg_slice (j := 0) @hval rfl rfl Tryd.underlying22
  obtain ⟨fuel0, hf0⟩ := h0
  obtain ⟨l0, ⟨A0, c0, he0, hl0, hC0⟩, wf0_⟩ := (Opn.slice Tryd.underlying22 opn50 (by kernel_rfl) (by kernel_rfl)) hf0 hw0
  simp [Value.cells] at he0
  obtain ⟨rfl, rfl, rfl⟩ := he0
  obtain ⟨a1, rfl, rfl, rfl⟩ := arg_bool (j := 1) @hval rfl rfl Tryd.underlying4 h1
  obtain ⟨k, h⟩ := CodeRanges l0 a1 wf0_
  refine (vellumlaw02_CodeRanges.calls k _ _ l0 a1 true W hC0 hl0 hG h).mono ?_
  rintro e W' ⟨rfl, hd⟩
  exact ⟨rfl, hd⟩
theorem witness_row (os : Os) {H : Type} (enc : TypeId × Value → H) :
    (OpenSpec.ofChange Rows.codeRangesSpec).preRow enc Tryd.prog Tryd.f6 [] false laidList ((laidWorld os).forCall (fun _ _ => 0) ⟨#[], #[.slice none 0 0, .bool false], []⟩).memory #[.slice none 0 0, .bool false] := by
  have hw : (DataW.whole enc Tryd.prog ((laidWorld os).forCall (fun _ _ => 0) ⟨#[], #[.slice none 0 0, .bool false], []⟩).memory Tryd.f6.params.toList (OpenSpec.ofChange Rows.codeRangesSpec).vars false (#[.slice none 0 0, .bool false] : Array Value).toList 8).map (fun x => (x.1, x.2.1)) = some ([.nil, .lit (.bool false)], []) := by kernel_rfl
  obtain ⟨⟨x1, x2, x3⟩, hx, hx1⟩ := Option.map_eq_some_iff.1 hw
  simp only [Prod.mk.injEq] at hx1
  obtain ⟨rfl, rfl⟩ := hx1
  exact OpenSpec.preRow_of_cond 8 hx (by kernel_rfl) (fun k hk => by cases hk) (by kernel_rfl) (laid_met os _)
theorem ends {os : Os} (started : os.Started) {H : Type} {enc : TypeId × Value → H} {F : Stop.Interp} : ReturnsInHanded { modest := false } Tryd.checked os 6 .any ((OpenSpec.ofChange Rows.codeRangesSpec).preRow enc Tryd.prog Tryd.f6 [] false laidList) (((OpenSpec.ofChange Rows.codeRangesSpec).at F).post enc Tryd.prog Tryd.f6 false true false false) :=
  law_lifted (spec := Rows.codeRangesSpec) Tryd.func6 (by kernel_rfl) (tb := 4) rfl Tryd.underlying4 (by kernel_rfl) rfl
    (fun H ds hl => by
      match ds, hl with
      | [_, _], _ => rfl) started
    (witness_row_atRef (enc := enc) (C := Tryd.checked) false (laidWorld os) #[.slice none 0 0, .bool false] rfl (by kernel_rfl) (by kernel_rfl) (by kernel_rfl) (witness_row os enc))
    (fun W base args ds ps hA hw hval hG => walk W base args ds ps hA hw @hval hG)
theorem inPlace_ : Tryd.prog.inPlace 6 = Rows.codeRangesRow.inPlace := by kernel_rfl
theorem unfollowed_ : Tryd.prog.unfollowed 6 = Rows.codeRangesRow.unfollowed := by kernel_rfl
theorem recurses_ : Tryd.prog.recurses 6 = Rows.codeRangesRow.recurses := by kernel_rfl
theorem named_ : Tryd.prog.varsNamed 6 = Rows.codeRangesRow.named := by kernel_rfl
theorem closed : joinedFacts Tryd.prog 6 Tryd.f6 (OpenSpec.ofChange Rows.codeRangesSpec).bare Rows.codeRangesRow = true := by
  unfold joinedFacts
  rw [laidOut, mapsRowed_, stops_, stopKnobs_, plainKeys_, stopsHeard_, mayEnter_, lifts_, make_, inPlace_, unfollowed_, recurses_, named_]
  kernel_rfl
set_option maxRecDepth 100000 in
theorem over : Rows.codeRangesRow.holds Tryd.pinned (OpenSpec.ofChange Rows.codeRangesSpec) :=
  OpenClaim.holds_of_cond 6 Tryd.f6 rfl rfl rfl rfl rfl rfl rfl ⟨rfl, rfl, rfl, rfl, rfl⟩ rfl rfl rfl rfl rfl (by kernel_rfl) Tryd.func6 closed
    (of_decide_eq_true (by kernel_rfl)) (by unfold Func.isWrapper; rw [if_neg (of_decide_eq_false (by kernel_rfl))]; exact ⟨rfl, rfl⟩)
    (fun os started H enc _ F => by
      rw [OpenClaim.pre_eq_preRow]
      exact ends started)
theorem card : Rows.CodeRangesCardSaid :=
  Claim7.holds_tied_plain_at .later [] [.data, .pinned] true (true, "409e20a6319c123f59629b35fea50f486835097bfbed967dc062cdc0fc9eff79") false
    over (fun _ h => by cases h) (by kernel_rfl) (fun _ h => by cases h) codeRanges_row_tie rfl ⟨rfl, rfl⟩ (by kernel_rfl) rfl
    (fun f fn hf hfn => by
      obtain rfl : f = 6 := Option.some.inj ((show Tryd.prog.funcNamed "vellum/vellumlaw02.CodeRanges" = some 6 by kernel_rfl).symm.trans hf) |>.symm
      obtain rfl : fn = Tryd.f6 := (Option.some.inj (Tryd.func6.symm.trans hfn)).symm
      exact ⟨by kernel_rfl, fun j t ht => by
        rw [Tryd.params6] at ht
        have h3 : t ∈ [22, 4] := by
          have := List.mem_of_getElem? (l := [22, 4]) (i := j) (by simpa using ht)
          exact this
        have h4 : ∀ t ∈ [22, 4], Tryd.prog.wantsStandIn t = false := by
          intro t ht
          simp only [List.mem_cons, List.mem_nil_iff, or_false] at ht
          rcases ht with rfl | rfl
          all_goals kernel_rfl
        exact h4 t h3⟩)
    (by kernel_rfl)
end Go.Proofs.YtpiifdbicibelaaDoor.codeRanges
namespace Go.Proofs.YtpiifdbicibelaaDoor
theorem codeRanges_holds : Rows.CodeRangesCardSaid := codeRanges.card
end Go.Proofs.YtpiifdbicibelaaDoor
end
