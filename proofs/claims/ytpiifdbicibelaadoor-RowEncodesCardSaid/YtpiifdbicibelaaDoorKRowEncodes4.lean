/- Part 5 of what the proof of RowEncodes stands on: words for walks, printed functions with their contracts, plain laws. -/
import Derived.Test.YtpiifdbicibelaaDoorKRowEncodes3
section
namespace Go.Proofs.YtpiifdbicibelaaDoor.PA
open Go.RowKit Go.Proofs.YtpiifdbicibelaaDoorW.PrintWords Go.Proofs.YtpiifdbicibelaaDoorW.PrintLast Go.Proofs.YtpiifdbicibelaaDoorW.PrintMore
attribute [local go_sem] max2_int min2_int max_two min_two max_three min_three max_four min_four   -- for this text's walks alone
set_option linter.unusedVariables false
set_option linter.unusedSimpArgs false
set_option maxHeartbeats 8000000 in
set_option maxRecDepth 100000 in
theorem vellumref03_Admits.calls (k : Nat) (a0_0 : ByteArray) (A0_1 : Option Addr) (c0_1 : Nat) (l0_1 : List (S105)) (A0_2 : Option Addr) (c0_2 : Nat) (l0_2 : List Int) (A0_3 : Option Addr) (c0_3 : Nat) (l0_3 : List (S115)) (A0_4 : Option Addr) (c0_4 : Nat) (l0_4 : List (S139)) (A1 : Option Addr) (c1 : Nat) (l1 : List (S50)) (r : Int) (w : World) (hr0_1 : Kd.C k105 w A0_1 l0_1.length l0_1) (hc0_1 : l0_1.length ≤ c0_1) (hr0_2 : Kd.C (Kd.int .i64) w A0_2 l0_2.length l0_2) (hc0_2 : l0_2.length ≤ c0_2) (hr0_3 : Kd.C k115 w A0_3 l0_3.length l0_3) (hc0_3 : l0_3.length ≤ c0_3) (hr0_4 : Kd.C k139 w A0_4 l0_4.length l0_4) (hc0_4 : l0_4.length ≤ c0_4) (hr1 : Kd.C k50 w A1 l1.length l1) (hc1 : l1.length ≤ c1) (hG : Glob w) (h : vellumref03_Admits.f k a0_0 l0_1 l0_2 l0_3 l0_4 l1 = some r) :
  Calls Tryd.prog 85 #[.agg #[.string a0_0, .slice A0_1 l0_1.length c0_1, .slice A0_2 l0_2.length c0_2, .slice A0_3 l0_3.length c0_3, .slice A0_4 l0_4.length c0_4], .slice A1 l1.length c1] w fun e w' => e = .returned (.int .i64 r) ∧ Below w.heap.size w w' := by
 have hu65 := Tryd.underlying65
 have hu50 := Tryd.underlying50
 have HR0_1 := Aside0.mk hr0_1
 have HC0_1 := Aside0.mk hc0_1
 clear hr0_1 hc0_1
 have HR0_2 := Aside0.mk hr0_2
 have HC0_2 := Aside0.mk hc0_2
 clear hr0_2 hc0_2
 have HR0_3 := Aside0.mk hr0_3
 have HC0_3 := Aside0.mk hc0_3
 clear hr0_3 hc0_3
 have HR0_4 := Aside0.mk hr0_4
 have HC0_4 := Aside0.mk hc0_4
 clear hr0_4 hc0_4
 have HR1 := Aside0.mk hr1
 have HC1 := Aside0.mk hc1
 clear hr1 hc1
 have HG := Aside0.mk hG
 clear hG
 have HB := Aside0.mk (Below.refl w.heap.size w)
 have H : ((vellumref03_Check.f k a0_0 l0_1 l0_2 l0_3 l0_4).bind fun t657 => (if t657 = 0 then (if (l1.length : Int) = (l0_1.length : Int) then (vellumref03_Admits.l0 k l1 0 a0_0 l0_1 l0_2 l0_3 l0_4) else (some 1)) else (some t657))) = some r := h
 clear h
 replace H := Option.bind_eq_some_iff.mp H
 obtain ⟨t657, A30, H⟩ := H
 replace H : (if t657 = 0 then (if (l1.length : Int) = (l0_1.length : Int) then (vellumref03_Admits.l0 k l1 0 a0_0 l0_1 l0_2 l0_3 l0_4) else (some 1)) else (some t657)) = some r := H
 have A3 := Aside0.mk A30
 clear A30
 by_cases c4 : t657 = 0
 ·rw [if_pos c4] at H
  have c4b0 : (t657 == 0) = true := beq_iff_eq.mpr c4
  have c4b1 : (t657 != 0) = false := bne_eq_false_iff_eq.mpr c4
  clear c4
  by_cases c5 : (l1.length : Int) = (l0_1.length : Int)
  ·rw [if_pos c5] at H
   have c5b0 : ((l1.length : Int) == (l0_1.length : Int)) = true := beq_iff_eq.mpr c5
   have c5b1 : ((l1.length : Int) != (l0_1.length : Int)) = false := bne_eq_false_iff_eq.mpr c5
   have c5b2 : (l1.length == l0_1.length) = true := by first | simpa using c5 | (simp at c5 ⊢; omega)
   clear c5
   have H' := Aside0.mk H
   clear H
   go_enter Tryd.func85, Tryd.ntmps85
   go_wp2_with (first | ((with_reducible refine gate_dst (N := 2) rfl ?_); refine box_event ?hg (N := 2) ?hd (cs := #[.string a0_0, .slice A0_1 l0_1.length c0_1, .slice A0_2 l0_2.length c0_2, .slice A0_3 l0_3.length c0_3, .slice A0_4 l0_4.length c0_4]) (t := 65) ?hr ?_; (case hd => rfl); (case hg => rfl); (case hr => first | (go_simp; done) | (go_simp; rfl)); intro gb656 hg w6 hbox hb; have n0_ := Aside0.mk (below_step (by repeat (first | (with_reducible first | exact HB.out | apply below_alloc | apply pw_below_drewN | apply below_drew1) | exact HB.out)) hb); have n1_ := Aside0.mk (hbox); have n2_ := Aside0.mk ((by rw [hg]; exact (below_size (by repeat (first | (with_reducible first | exact HB.out | apply below_alloc | apply pw_below_drewN | apply below_drew1) | exact HB.out))) : w.heap.size ≤ gb656)); have n3_ := n2_; clear HB; have HB := n0_; have BK656 := n1_; have GW656 := n2_; have GE656 := n3_; clear n0_ n1_ n2_ n3_; clear hb hbox hg; have hcz7_0 : w6.cell? ⟨gb656, 0, none⟩ = some (.string a0_0) := (blk_cell BK656.out 0).trans rfl; have hcz7_1 : w6.cell? ⟨gb656, 1, none⟩ = some (.slice A0_1 l0_1.length c0_1) := (blk_cell BK656.out 1).trans rfl; have hcz7_2 : w6.cell? ⟨gb656, 2, none⟩ = some (.slice A0_2 l0_2.length c0_2) := (blk_cell BK656.out 2).trans rfl; have hcz7_3 : w6.cell? ⟨gb656, 3, none⟩ = some (.slice A0_3 l0_3.length c0_3) := (blk_cell BK656.out 3).trans rfl; have hcz7_4 : w6.cell? ⟨gb656, 4, none⟩ = some (.slice A0_4 l0_4.length c0_4) := (blk_cell BK656.out 4).trans rfl; have hfz7_0 := blk_frozen BK656.out 0; have hfz7_1 := blk_frozen BK656.out 1; have hfz7_2 := blk_frozen BK656.out 2; have hfz7_3 := blk_frozen BK656.out 3; have hfz7_4 := blk_frozen BK656.out 4) | (go_at_call 93; (with_reducible refine (vellumref03_Check.calls k a0_0 _ _ l0_1 _ _ l0_2 _ _ l0_3 _ _ l0_4 t657 _ ?side1 ?side2 ?side3 ?side4 ?side5 ?side6 ?side7 ?side8 ?side9 A3.out).mono ?_); (case side1 => repeat (first | exact (Kd.C_below HR0_1.out HB.out) | (with_reducible refine Kd.C_alloc ?_ _) | (with_reducible refine Kd.C_drewN ?_ _) | (with_reducible refine Kd.C_drew ?_))); (case side2 => exact HC0_1.out); (case side3 => repeat (first | exact (Kd.C_below HR0_2.out HB.out) | (with_reducible refine Kd.C_alloc ?_ _) | (with_reducible refine Kd.C_drewN ?_ _) | (with_reducible refine Kd.C_drew ?_))); (case side4 => exact HC0_2.out); (case side5 => repeat (first | exact (Kd.C_below HR0_3.out HB.out) | (with_reducible refine Kd.C_alloc ?_ _) | (with_reducible refine Kd.C_drewN ?_ _) | (with_reducible refine Kd.C_drew ?_))); (case side6 => exact HC0_3.out); (case side7 => repeat (first | exact (Kd.C_below HR0_4.out HB.out) | (with_reducible refine Kd.C_alloc ?_ _) | (with_reducible refine Kd.C_drewN ?_ _) | (with_reducible refine Kd.C_drew ?_))); (case side8 => exact HC0_4.out); (case side9 => exact Glob.below HG.out (by repeat (first | (with_reducible first | exact HB.out | apply below_alloc | apply pw_below_drewN | apply below_drew1 | refine below_set ?_ GE656.out) | exact HB.out))); rintro e w8 ⟨rfl, hb⟩; have n0_ := Aside0.mk (blk_below (g := gb656) (o := .cells #[.string a0_0, .slice A0_1 l0_1.length c0_1, .slice A0_2 l0_2.length c0_2, .slice A0_3 l0_3.length c0_3, .slice A0_4 l0_4.length c0_4] 65 (0, 0)) (by (with_reducible repeat (first | refine blk_drewN ?_ _ | refine blk_drew ?_ | refine blk_alloc ?_ _)); exact BK656.out) hb); have n1_ := Aside0.mk (below_step (by repeat (first | (with_reducible first | exact HB.out | apply below_alloc | apply pw_below_drewN | apply below_drew1 | refine below_set ?_ GE656.out) | exact HB.out)) hb); clear BK656; clear HB; have BK656 := n0_; have HB := n1_; clear n0_ n1_; (try clear hb); (try clear hb2); (try clear hk); (try clear hi); have hcz9_0 : w8.cell? ⟨gb656, 0, none⟩ = some (.string a0_0) := (blk_cell BK656.out 0).trans rfl; have hcz9_1 : w8.cell? ⟨gb656, 1, none⟩ = some (.slice A0_1 l0_1.length c0_1) := (blk_cell BK656.out 1).trans rfl; have hcz9_2 : w8.cell? ⟨gb656, 2, none⟩ = some (.slice A0_2 l0_2.length c0_2) := (blk_cell BK656.out 2).trans rfl; have hcz9_3 : w8.cell? ⟨gb656, 3, none⟩ = some (.slice A0_3 l0_3.length c0_3) := (blk_cell BK656.out 3).trans rfl; have hcz9_4 : w8.cell? ⟨gb656, 4, none⟩ = some (.slice A0_4 l0_4.length c0_4) := (blk_cell BK656.out 4).trans rfl; have hfz9_0 := blk_frozen BK656.out 0; have hfz9_1 := blk_frozen BK656.out 1; have hfz9_2 := blk_frozen BK656.out 2; have hfz9_3 := blk_frozen BK656.out 3; have hfz9_4 := blk_frozen BK656.out 4))
   repeat (go_quiet (first | ((with_reducible refine gate_dst (N := 2) rfl ?_); refine box_event ?hg (N := 2) ?hd (cs := #[.string a0_0, .slice A0_1 l0_1.length c0_1, .slice A0_2 l0_2.length c0_2, .slice A0_3 l0_3.length c0_3, .slice A0_4 l0_4.length c0_4]) (t := 65) ?hr ?_; (case hd => rfl); (case hg => rfl); (case hr => first | (go_simp; done) | (go_simp; rfl)); intro gb656 hg w6 hbox hb; have n0_ := Aside0.mk (below_step (by repeat (first | (with_reducible first | exact HB.out | apply below_alloc | apply pw_below_drewN | apply below_drew1) | exact HB.out)) hb); have n1_ := Aside0.mk (hbox); have n2_ := Aside0.mk ((by rw [hg]; exact (below_size (by repeat (first | (with_reducible first | exact HB.out | apply below_alloc | apply pw_below_drewN | apply below_drew1) | exact HB.out))) : w.heap.size ≤ gb656)); have n3_ := n2_; clear HB; have HB := n0_; have BK656 := n1_; have GW656 := n2_; have GE656 := n3_; clear n0_ n1_ n2_ n3_; clear hb hbox hg; have hcz7_0 : w6.cell? ⟨gb656, 0, none⟩ = some (.string a0_0) := (blk_cell BK656.out 0).trans rfl; have hcz7_1 : w6.cell? ⟨gb656, 1, none⟩ = some (.slice A0_1 l0_1.length c0_1) := (blk_cell BK656.out 1).trans rfl; have hcz7_2 : w6.cell? ⟨gb656, 2, none⟩ = some (.slice A0_2 l0_2.length c0_2) := (blk_cell BK656.out 2).trans rfl; have hcz7_3 : w6.cell? ⟨gb656, 3, none⟩ = some (.slice A0_3 l0_3.length c0_3) := (blk_cell BK656.out 3).trans rfl; have hcz7_4 : w6.cell? ⟨gb656, 4, none⟩ = some (.slice A0_4 l0_4.length c0_4) := (blk_cell BK656.out 4).trans rfl; have hfz7_0 := blk_frozen BK656.out 0; have hfz7_1 := blk_frozen BK656.out 1; have hfz7_2 := blk_frozen BK656.out 2; have hfz7_3 := blk_frozen BK656.out 3; have hfz7_4 := blk_frozen BK656.out 4) | (go_at_call 93; (with_reducible refine (vellumref03_Check.calls k a0_0 _ _ l0_1 _ _ l0_2 _ _ l0_3 _ _ l0_4 t657 _ ?side1 ?side2 ?side3 ?side4 ?side5 ?side6 ?side7 ?side8 ?side9 A3.out).mono ?_); (case side1 => repeat (first | exact (Kd.C_below HR0_1.out HB.out) | (with_reducible refine Kd.C_alloc ?_ _) | (with_reducible refine Kd.C_drewN ?_ _) | (with_reducible refine Kd.C_drew ?_))); (case side2 => exact HC0_1.out); (case side3 => repeat (first | exact (Kd.C_below HR0_2.out HB.out) | (with_reducible refine Kd.C_alloc ?_ _) | (with_reducible refine Kd.C_drewN ?_ _) | (with_reducible refine Kd.C_drew ?_))); (case side4 => exact HC0_2.out); (case side5 => repeat (first | exact (Kd.C_below HR0_3.out HB.out) | (with_reducible refine Kd.C_alloc ?_ _) | (with_reducible refine Kd.C_drewN ?_ _) | (with_reducible refine Kd.C_drew ?_))); (case side6 => exact HC0_3.out); (case side7 => repeat (first | exact (Kd.C_below HR0_4.out HB.out) | (with_reducible refine Kd.C_alloc ?_ _) | (with_reducible refine Kd.C_drewN ?_ _) | (with_reducible refine Kd.C_drew ?_))); (case side8 => exact HC0_4.out); (case side9 => exact Glob.below HG.out (by repeat (first | (with_reducible first | exact HB.out | apply below_alloc | apply pw_below_drewN | apply below_drew1 | refine below_set ?_ GE656.out) | exact HB.out))); rintro e w8 ⟨rfl, hb⟩; have n0_ := Aside0.mk (blk_below (g := gb656) (o := .cells #[.string a0_0, .slice A0_1 l0_1.length c0_1, .slice A0_2 l0_2.length c0_2, .slice A0_3 l0_3.length c0_3, .slice A0_4 l0_4.length c0_4] 65 (0, 0)) (by (with_reducible repeat (first | refine blk_drewN ?_ _ | refine blk_drew ?_ | refine blk_alloc ?_ _)); exact BK656.out) hb); have n1_ := Aside0.mk (below_step (by repeat (first | (with_reducible first | exact HB.out | apply below_alloc | apply pw_below_drewN | apply below_drew1 | refine below_set ?_ GE656.out) | exact HB.out)) hb); clear BK656; clear HB; have BK656 := n0_; have HB := n1_; clear n0_ n1_; (try clear hb); (try clear hb2); (try clear hk); (try clear hi); have hcz9_0 : w8.cell? ⟨gb656, 0, none⟩ = some (.string a0_0) := (blk_cell BK656.out 0).trans rfl; have hcz9_1 : w8.cell? ⟨gb656, 1, none⟩ = some (.slice A0_1 l0_1.length c0_1) := (blk_cell BK656.out 1).trans rfl; have hcz9_2 : w8.cell? ⟨gb656, 2, none⟩ = some (.slice A0_2 l0_2.length c0_2) := (blk_cell BK656.out 2).trans rfl; have hcz9_3 : w8.cell? ⟨gb656, 3, none⟩ = some (.slice A0_3 l0_3.length c0_3) := (blk_cell BK656.out 3).trans rfl; have hcz9_4 : w8.cell? ⟨gb656, 4, none⟩ = some (.slice A0_4 l0_4.length c0_4) := (blk_cell BK656.out 4).trans rfl; have hfz9_0 := blk_frozen BK656.out 0; have hfz9_1 := blk_frozen BK656.out 1; have hfz9_2 := blk_frozen BK656.out 2; have hfz9_3 := blk_frozen BK656.out 3; have hfz9_4 := blk_frozen BK656.out 4)); try go_wp2_with (first | ((with_reducible refine gate_dst (N := 2) rfl ?_); refine box_event ?hg (N := 2) ?hd (cs := #[.string a0_0, .slice A0_1 l0_1.length c0_1, .slice A0_2 l0_2.length c0_2, .slice A0_3 l0_3.length c0_3, .slice A0_4 l0_4.length c0_4]) (t := 65) ?hr ?_; (case hd => rfl); (case hg => rfl); (case hr => first | (go_simp; done) | (go_simp; rfl)); intro gb656 hg w6 hbox hb; have n0_ := Aside0.mk (below_step (by repeat (first | (with_reducible first | exact HB.out | apply below_alloc | apply pw_below_drewN | apply below_drew1) | exact HB.out)) hb); have n1_ := Aside0.mk (hbox); have n2_ := Aside0.mk ((by rw [hg]; exact (below_size (by repeat (first | (with_reducible first | exact HB.out | apply below_alloc | apply pw_below_drewN | apply below_drew1) | exact HB.out))) : w.heap.size ≤ gb656)); have n3_ := n2_; clear HB; have HB := n0_; have BK656 := n1_; have GW656 := n2_; have GE656 := n3_; clear n0_ n1_ n2_ n3_; clear hb hbox hg; have hcz7_0 : w6.cell? ⟨gb656, 0, none⟩ = some (.string a0_0) := (blk_cell BK656.out 0).trans rfl; have hcz7_1 : w6.cell? ⟨gb656, 1, none⟩ = some (.slice A0_1 l0_1.length c0_1) := (blk_cell BK656.out 1).trans rfl; have hcz7_2 : w6.cell? ⟨gb656, 2, none⟩ = some (.slice A0_2 l0_2.length c0_2) := (blk_cell BK656.out 2).trans rfl; have hcz7_3 : w6.cell? ⟨gb656, 3, none⟩ = some (.slice A0_3 l0_3.length c0_3) := (blk_cell BK656.out 3).trans rfl; have hcz7_4 : w6.cell? ⟨gb656, 4, none⟩ = some (.slice A0_4 l0_4.length c0_4) := (blk_cell BK656.out 4).trans rfl; have hfz7_0 := blk_frozen BK656.out 0; have hfz7_1 := blk_frozen BK656.out 1; have hfz7_2 := blk_frozen BK656.out 2; have hfz7_3 := blk_frozen BK656.out 3; have hfz7_4 := blk_frozen BK656.out 4) | (go_at_call 93; (with_reducible refine (vellumref03_Check.calls k a0_0 _ _ l0_1 _ _ l0_2 _ _ l0_3 _ _ l0_4 t657 _ ?side1 ?side2 ?side3 ?side4 ?side5 ?side6 ?side7 ?side8 ?side9 A3.out).mono ?_); (case side1 => repeat (first | exact (Kd.C_below HR0_1.out HB.out) | (with_reducible refine Kd.C_alloc ?_ _) | (with_reducible refine Kd.C_drewN ?_ _) | (with_reducible refine Kd.C_drew ?_))); (case side2 => exact HC0_1.out); (case side3 => repeat (first | exact (Kd.C_below HR0_2.out HB.out) | (with_reducible refine Kd.C_alloc ?_ _) | (with_reducible refine Kd.C_drewN ?_ _) | (with_reducible refine Kd.C_drew ?_))); (case side4 => exact HC0_2.out); (case side5 => repeat (first | exact (Kd.C_below HR0_3.out HB.out) | (with_reducible refine Kd.C_alloc ?_ _) | (with_reducible refine Kd.C_drewN ?_ _) | (with_reducible refine Kd.C_drew ?_))); (case side6 => exact HC0_3.out); (case side7 => repeat (first | exact (Kd.C_below HR0_4.out HB.out) | (with_reducible refine Kd.C_alloc ?_ _) | (with_reducible refine Kd.C_drewN ?_ _) | (with_reducible refine Kd.C_drew ?_))); (case side8 => exact HC0_4.out); (case side9 => exact Glob.below HG.out (by repeat (first | (with_reducible first | exact HB.out | apply below_alloc | apply pw_below_drewN | apply below_drew1 | refine below_set ?_ GE656.out) | exact HB.out))); rintro e w8 ⟨rfl, hb⟩; have n0_ := Aside0.mk (blk_below (g := gb656) (o := .cells #[.string a0_0, .slice A0_1 l0_1.length c0_1, .slice A0_2 l0_2.length c0_2, .slice A0_3 l0_3.length c0_3, .slice A0_4 l0_4.length c0_4] 65 (0, 0)) (by (with_reducible repeat (first | refine blk_drewN ?_ _ | refine blk_drew ?_ | refine blk_alloc ?_ _)); exact BK656.out) hb); have n1_ := Aside0.mk (below_step (by repeat (first | (with_reducible first | exact HB.out | apply below_alloc | apply pw_below_drewN | apply below_drew1 | refine below_set ?_ GE656.out) | exact HB.out)) hb); clear BK656; clear HB; have BK656 := n0_; have HB := n1_; clear n0_ n1_; (try clear hb); (try clear hb2); (try clear hk); (try clear hi); have hcz9_0 : w8.cell? ⟨gb656, 0, none⟩ = some (.string a0_0) := (blk_cell BK656.out 0).trans rfl; have hcz9_1 : w8.cell? ⟨gb656, 1, none⟩ = some (.slice A0_1 l0_1.length c0_1) := (blk_cell BK656.out 1).trans rfl; have hcz9_2 : w8.cell? ⟨gb656, 2, none⟩ = some (.slice A0_2 l0_2.length c0_2) := (blk_cell BK656.out 2).trans rfl; have hcz9_3 : w8.cell? ⟨gb656, 3, none⟩ = some (.slice A0_3 l0_3.length c0_3) := (blk_cell BK656.out 3).trans rfl; have hcz9_4 : w8.cell? ⟨gb656, 4, none⟩ = some (.slice A0_4 l0_4.length c0_4) := (blk_cell BK656.out 4).trans rfl; have hfz9_0 := blk_frozen BK656.out 0; have hfz9_1 := blk_frozen BK656.out 1; have hfz9_2 := blk_frozen BK656.out 2; have hfz9_3 := blk_frozen BK656.out 3; have hfz9_4 := blk_frozen BK656.out 4)))
   go_loopg [6] k (fun kq v6 w' => ∃ (x6_1 : Int), v6 = .int .i64 x6_1 ∧ Aside0 (vellumref03_Admits.l0 kq l1 x6_1 a0_0 l0_1 l0_2 l0_3 l0_4 = some r) ∧ Aside0 (kq ≤ k) ∧ Aside0 (w'.heap[gb656]? = some (.cells #[.string a0_0, (.slice A0_1 l0_1.length c0_1), (.slice A0_2 l0_2.length c0_2), (.slice A0_3 l0_3.length c0_3), (.slice A0_4 l0_4.length c0_4)] 65 (0, 0))) ∧ Aside0 (Below w.heap.size w w'))
   case atStart => exact ⟨(0), (by first | rfl | (simp; done) | (simp [*]; done) | (simp [bool_ne_nil]; done) | (simp; exact bool_ne_nil _)), H', ⟨Nat.le_refl _⟩, ⟨by (with_reducible repeat (first | refine blk_drewN ?_ _ | refine blk_drew ?_ | refine blk_alloc ?_ _)); exact BK656.out⟩, ⟨by repeat (first | (with_reducible first | exact HB.out | apply below_alloc | apply pw_below_drewN | apply below_drew1 | refine below_set ?_ GE656.out) | exact HB.out)⟩⟩
   case round =>
    clear H'
    (try clear c1); (try clear p2); (try clear c4); (try clear c4b0); (try clear c4b1); (try clear c5); (try clear c5b0); (try clear c5b1); (try clear c5b2); (try clear c8); (try clear hcz7_0); (try clear hcz7_1); (try clear hcz7_2); (try clear hcz7_3); (try clear hcz7_4); (try clear hcz9_0); (try clear hcz9_1); (try clear hcz9_2); (try clear hcz9_3); (try clear hcz9_4); (try clear hfz7_0); (try clear hfz7_1); (try clear hfz7_2); (try clear hfz7_3); (try clear hfz7_4); (try clear hfz9_0); (try clear hfz9_1); (try clear hfz9_2); (try clear hfz9_3); (try clear hfz9_4)
    obtain ⟨x6_1, rfl, HA, HK1, BK656, HB⟩ := hrel
    cases gk with
    | zero => exact absurd HA.out (by simp [vellumref03_Admits.l0])
    | succ k1 =>
     have H := HA.out
     clear HA
     simp only [vellumref03_Admits.l0] at H
     by_cases c10 : x6_1 < (l1.length : Int)
     ·rw [if_pos c10] at H
      have c10b0 : decide (x6_1 < (l1.length : Int)) = true := decide_eq_true c10
      clear c10
      by_cases c11 : 0 ≤ x6_1
      ·rw [if_pos c11] at H
       have c11b0 : decide (0 ≤ x6_1) = true := decide_eq_true c11
       clear c11
       replace H := Option.bind_eq_some_iff.mp H
       obtain ⟨t659, A120, H⟩ := H
       replace H : (if t659 = 0 then (if ((rd_T50 l1 x6_1).f0) = 0 then (if x6_1 < (l0_1.length : Int) then (if ((rd_T105 l0_1 x6_1).f2 = true) then (vellumref03_Admits.l0 k1 l1 (wrap64 (x6_1 + 1)) a0_0 l0_1 l0_2 l0_3 l0_4) else (some 35)) else (none)) else (if x6_1 < (l0_1.length : Int) then (if ((rd_T50 l1 x6_1).f0) = ((rd_T105 l0_1 x6_1).f1) then (vellumref03_Admits.l0 k1 l1 (wrap64 (x6_1 + 1)) a0_0 l0_1 l0_2 l0_3 l0_4) else (some 32)) else (none))) else (some t659)) = some r := H
       have A12 := Aside0.mk A120
       clear A120
       by_cases c13 : t659 = 0
       ·rw [if_pos c13] at H
        have c13b0 : (t659 == 0) = true := beq_iff_eq.mpr c13
        have c13b1 : (t659 != 0) = false := bne_eq_false_iff_eq.mpr c13
        clear c13
        by_cases c14 : ((rd_T50 l1 x6_1).f0) = 0
        ·rw [if_pos c14] at H
         have c14b0 : (((rd_T50 l1 x6_1).f0) == 0) = true := beq_iff_eq.mpr c14
         have c14b1 : (((rd_T50 l1 x6_1).f0) != 0) = false := bne_eq_false_iff_eq.mpr c14
         clear c14
         by_cases c15 : x6_1 < (l0_1.length : Int)
         ·rw [if_pos c15] at H
          have c15b0 : decide (x6_1 < (l0_1.length : Int)) = true := decide_eq_true c15
          clear c15
          obtain ⟨bq16, hbq16⟩ : ∃ b_ : Bool, b_ = ((rd_T105 l0_1 x6_1).f2) := ⟨_, rfl⟩
          replace H : (if (bq16 = true) then (vellumref03_Admits.l0 k1 l1 (wrap64 (x6_1 + 1)) a0_0 l0_1 l0_2 l0_3 l0_4) else (some 35)) = some r := by rw [← hbq16] at H; exact H
          have Nbq16 := Aside0.mk hbq16
          clear hbq16
          by_cases c17 : (bq16 = true)
          ·subst c17
           have H1 : (vellumref03_Admits.l0 k1 l1 (wrap64 (x6_1 + 1)) a0_0 l0_1 l0_2 l0_3 l0_4) = some r := by rw [if_pos rfl] at H; exact H
           clear H
           have H := H1
           clear H1
           have H' := Aside0.mk H
           clear H
           have p658 : 0 ≤ (x6_1 : Int) := of_decide_eq_true (by first | (with_reducible assumption) | assumption)
           have q658 : x6_1 < (l1.length : Int) := of_decide_eq_true (by first | (with_reducible assumption) | assumption)
           obtain ⟨ad658, e658, hx658_0, hx658_1, hx658_2, hx658_3⟩ := at_T50 HR1.out x6_1 p658 q658
           cases e658
           replace hx658_0 := (HB.out.cell (World.block_lt_of_cell? w _ hx658_0)).trans hx658_0
           replace hx658_1 := (HB.out.cell (World.block_lt_of_cell? w _ hx658_1)).trans hx658_1
           replace hx658_2 := (HB.out.cell (World.block_lt_of_cell? w _ hx658_2)).trans hx658_2
           replace hx658_3 := (HB.out.cell (World.block_lt_of_cell? w _ hx658_3)).trans hx658_3
           replace p658 := eq_true p658
           replace q658 := eq_true q658
           go_wp2_with (first | (go_at_call 69; (with_reducible refine (vellumref01_Check.calls k1 ((rd_T50 l1 x6_1).f0) ((rd_T50 l1 x6_1).f1) ((rd_T50 l1 x6_1).f2) ((rd_T50 l1 x6_1).f3) t659 _ ?side1 A12.out).mono ?_); (case side1 => exact Glob.below HG.out (by repeat (first | (with_reducible first | exact HB.out | apply below_alloc | apply pw_below_drewN | apply below_drew1 | refine below_set ?_ GE656.out) | exact HB.out))); rintro e w18 ⟨rfl, hb⟩; have n0_ := Aside0.mk (blk_below (g := gb656) (o := .cells #[.string a0_0, .slice A0_1 l0_1.length c0_1, .slice A0_2 l0_2.length c0_2, .slice A0_3 l0_3.length c0_3, .slice A0_4 l0_4.length c0_4] 65 (0, 0)) (by (with_reducible repeat (first | refine blk_drewN ?_ _ | refine blk_drew ?_ | refine blk_alloc ?_ _)); exact BK656.out) hb); have n1_ := Aside0.mk (below_step (by repeat (first | (with_reducible first | exact HB.out | apply below_alloc | apply pw_below_drewN | apply below_drew1 | refine below_set ?_ GE656.out) | exact HB.out)) hb); clear BK656; clear HB; have BK656 := n0_; have HB := n1_; clear n0_ n1_; (try clear hb); (try clear hb2); (try clear hk); (try clear hi); have p660 : 0 ≤ (x6_1 : Int) := of_decide_eq_true (by first | (with_reducible assumption) | assumption); have q660 : x6_1 < (l1.length : Int) := of_decide_eq_true (by first | (with_reducible assumption) | assumption); obtain ⟨ad660, e660, hx660_0, hx660_1, hx660_2, hx660_3⟩ := at_T50 HR1.out x6_1 p660 q660; obtain rfl : ad658 = ad660 := (by injection e660); replace hx660_0 := (HB.out.cell (World.block_lt_of_cell? w _ hx660_0)).trans hx660_0; replace hx660_1 := (HB.out.cell (World.block_lt_of_cell? w _ hx660_1)).trans hx660_1; replace hx660_2 := (HB.out.cell (World.block_lt_of_cell? w _ hx660_2)).trans hx660_2; replace hx660_3 := (HB.out.cell (World.block_lt_of_cell? w _ hx660_3)).trans hx660_3; replace p660 := eq_true p660; replace q660 := eq_true q660; have hcz19_0 : w18.cell? ⟨gb656, 0, none⟩ = some (.string a0_0) := (blk_cell BK656.out 0).trans rfl; have hcz19_1 : w18.cell? ⟨gb656, 1, none⟩ = some (.slice A0_1 l0_1.length c0_1) := (blk_cell BK656.out 1).trans rfl; have hcz19_2 : w18.cell? ⟨gb656, 2, none⟩ = some (.slice A0_2 l0_2.length c0_2) := (blk_cell BK656.out 2).trans rfl; have hcz19_3 : w18.cell? ⟨gb656, 3, none⟩ = some (.slice A0_3 l0_3.length c0_3) := (blk_cell BK656.out 3).trans rfl; have hcz19_4 : w18.cell? ⟨gb656, 4, none⟩ = some (.slice A0_4 l0_4.length c0_4) := (blk_cell BK656.out 4).trans rfl; have hfz19_0 := blk_frozen BK656.out 0; have hfz19_1 := blk_frozen BK656.out 1; have hfz19_2 := blk_frozen BK656.out 2; have hfz19_3 := blk_frozen BK656.out 3; have hfz19_4 := blk_frozen BK656.out 4; have p661 : 0 ≤ (x6_1 : Int) := of_decide_eq_true (by first | (with_reducible assumption) | assumption); have q661 : x6_1 < (l0_1.length : Int) := of_decide_eq_true (by first | (with_reducible assumption) | assumption); obtain ⟨ad661, e661, hx661_0, hx661_1, hx661_2, hx661_3, hx661_4, hx661_5, hx661_6⟩ := at_T105 HR0_1.out x6_1 p661 q661; (try rw [← Nbq16.out] at hx661_2); (try rw [← Nbq16.out] at hw661_2); cases e661; replace hx661_0 := (HB.out.cell (World.block_lt_of_cell? w _ hx661_0)).trans hx661_0; replace hx661_1 := (HB.out.cell (World.block_lt_of_cell? w _ hx661_1)).trans hx661_1; replace hx661_2 := (HB.out.cell (World.block_lt_of_cell? w _ hx661_2)).trans hx661_2; replace hx661_3 := (HB.out.cell (World.block_lt_of_cell? w _ hx661_3)).trans hx661_3; replace hx661_4 := (HB.out.cell (World.block_lt_of_cell? w _ hx661_4)).trans hx661_4; replace hx661_5 := (HB.out.cell (World.block_lt_of_cell? w _ hx661_5)).trans hx661_5; replace hx661_6 := (HB.out.cell (World.block_lt_of_cell? w _ hx661_6)).trans hx661_6; replace p661 := eq_true p661; replace q661 := eq_true q661))
           repeat (go_quiet (first | (go_at_call 69; (with_reducible refine (vellumref01_Check.calls k1 ((rd_T50 l1 x6_1).f0) ((rd_T50 l1 x6_1).f1) ((rd_T50 l1 x6_1).f2) ((rd_T50 l1 x6_1).f3) t659 _ ?side1 A12.out).mono ?_); (case side1 => exact Glob.below HG.out (by repeat (first | (with_reducible first | exact HB.out | apply below_alloc | apply pw_below_drewN | apply below_drew1 | refine below_set ?_ GE656.out) | exact HB.out))); rintro e w18 ⟨rfl, hb⟩; have n0_ := Aside0.mk (blk_below (g := gb656) (o := .cells #[.string a0_0, .slice A0_1 l0_1.length c0_1, .slice A0_2 l0_2.length c0_2, .slice A0_3 l0_3.length c0_3, .slice A0_4 l0_4.length c0_4] 65 (0, 0)) (by (with_reducible repeat (first | refine blk_drewN ?_ _ | refine blk_drew ?_ | refine blk_alloc ?_ _)); exact BK656.out) hb); have n1_ := Aside0.mk (below_step (by repeat (first | (with_reducible first | exact HB.out | apply below_alloc | apply pw_below_drewN | apply below_drew1 | refine below_set ?_ GE656.out) | exact HB.out)) hb); clear BK656; clear HB; have BK656 := n0_; have HB := n1_; clear n0_ n1_; (try clear hb); (try clear hb2); (try clear hk); (try clear hi); have p660 : 0 ≤ (x6_1 : Int) := of_decide_eq_true (by first | (with_reducible assumption) | assumption); have q660 : x6_1 < (l1.length : Int) := of_decide_eq_true (by first | (with_reducible assumption) | assumption); obtain ⟨ad660, e660, hx660_0, hx660_1, hx660_2, hx660_3⟩ := at_T50 HR1.out x6_1 p660 q660; obtain rfl : ad658 = ad660 := (by injection e660); replace hx660_0 := (HB.out.cell (World.block_lt_of_cell? w _ hx660_0)).trans hx660_0; replace hx660_1 := (HB.out.cell (World.block_lt_of_cell? w _ hx660_1)).trans hx660_1; replace hx660_2 := (HB.out.cell (World.block_lt_of_cell? w _ hx660_2)).trans hx660_2; replace hx660_3 := (HB.out.cell (World.block_lt_of_cell? w _ hx660_3)).trans hx660_3; replace p660 := eq_true p660; replace q660 := eq_true q660; have hcz19_0 : w18.cell? ⟨gb656, 0, none⟩ = some (.string a0_0) := (blk_cell BK656.out 0).trans rfl; have hcz19_1 : w18.cell? ⟨gb656, 1, none⟩ = some (.slice A0_1 l0_1.length c0_1) := (blk_cell BK656.out 1).trans rfl; have hcz19_2 : w18.cell? ⟨gb656, 2, none⟩ = some (.slice A0_2 l0_2.length c0_2) := (blk_cell BK656.out 2).trans rfl; have hcz19_3 : w18.cell? ⟨gb656, 3, none⟩ = some (.slice A0_3 l0_3.length c0_3) := (blk_cell BK656.out 3).trans rfl; have hcz19_4 : w18.cell? ⟨gb656, 4, none⟩ = some (.slice A0_4 l0_4.length c0_4) := (blk_cell BK656.out 4).trans rfl; have hfz19_0 := blk_frozen BK656.out 0; have hfz19_1 := blk_frozen BK656.out 1; have hfz19_2 := blk_frozen BK656.out 2; have hfz19_3 := blk_frozen BK656.out 3; have hfz19_4 := blk_frozen BK656.out 4; have p661 : 0 ≤ (x6_1 : Int) := of_decide_eq_true (by first | (with_reducible assumption) | assumption); have q661 : x6_1 < (l0_1.length : Int) := of_decide_eq_true (by first | (with_reducible assumption) | assumption); obtain ⟨ad661, e661, hx661_0, hx661_1, hx661_2, hx661_3, hx661_4, hx661_5, hx661_6⟩ := at_T105 HR0_1.out x6_1 p661 q661; (try rw [← Nbq16.out] at hx661_2); (try rw [← Nbq16.out] at hw661_2); cases e661; replace hx661_0 := (HB.out.cell (World.block_lt_of_cell? w _ hx661_0)).trans hx661_0; replace hx661_1 := (HB.out.cell (World.block_lt_of_cell? w _ hx661_1)).trans hx661_1; replace hx661_2 := (HB.out.cell (World.block_lt_of_cell? w _ hx661_2)).trans hx661_2; replace hx661_3 := (HB.out.cell (World.block_lt_of_cell? w _ hx661_3)).trans hx661_3; replace hx661_4 := (HB.out.cell (World.block_lt_of_cell? w _ hx661_4)).trans hx661_4; replace hx661_5 := (HB.out.cell (World.block_lt_of_cell? w _ hx661_5)).trans hx661_5; replace hx661_6 := (HB.out.cell (World.block_lt_of_cell? w _ hx661_6)).trans hx661_6; replace p661 := eq_true p661; replace q661 := eq_true q661)); try go_wp2_with (first | (go_at_call 69; (with_reducible refine (vellumref01_Check.calls k1 ((rd_T50 l1 x6_1).f0) ((rd_T50 l1 x6_1).f1) ((rd_T50 l1 x6_1).f2) ((rd_T50 l1 x6_1).f3) t659 _ ?side1 A12.out).mono ?_); (case side1 => exact Glob.below HG.out (by repeat (first | (with_reducible first | exact HB.out | apply below_alloc | apply pw_below_drewN | apply below_drew1 | refine below_set ?_ GE656.out) | exact HB.out))); rintro e w18 ⟨rfl, hb⟩; have n0_ := Aside0.mk (blk_below (g := gb656) (o := .cells #[.string a0_0, .slice A0_1 l0_1.length c0_1, .slice A0_2 l0_2.length c0_2, .slice A0_3 l0_3.length c0_3, .slice A0_4 l0_4.length c0_4] 65 (0, 0)) (by (with_reducible repeat (first | refine blk_drewN ?_ _ | refine blk_drew ?_ | refine blk_alloc ?_ _)); exact BK656.out) hb); have n1_ := Aside0.mk (below_step (by repeat (first | (with_reducible first | exact HB.out | apply below_alloc | apply pw_below_drewN | apply below_drew1 | refine below_set ?_ GE656.out) | exact HB.out)) hb); clear BK656; clear HB; have BK656 := n0_; have HB := n1_; clear n0_ n1_; (try clear hb); (try clear hb2); (try clear hk); (try clear hi); have p660 : 0 ≤ (x6_1 : Int) := of_decide_eq_true (by first | (with_reducible assumption) | assumption); have q660 : x6_1 < (l1.length : Int) := of_decide_eq_true (by first | (with_reducible assumption) | assumption); obtain ⟨ad660, e660, hx660_0, hx660_1, hx660_2, hx660_3⟩ := at_T50 HR1.out x6_1 p660 q660; obtain rfl : ad658 = ad660 := (by injection e660); replace hx660_0 := (HB.out.cell (World.block_lt_of_cell? w _ hx660_0)).trans hx660_0; replace hx660_1 := (HB.out.cell (World.block_lt_of_cell? w _ hx660_1)).trans hx660_1; replace hx660_2 := (HB.out.cell (World.block_lt_of_cell? w _ hx660_2)).trans hx660_2; replace hx660_3 := (HB.out.cell (World.block_lt_of_cell? w _ hx660_3)).trans hx660_3; replace p660 := eq_true p660; replace q660 := eq_true q660; have hcz19_0 : w18.cell? ⟨gb656, 0, none⟩ = some (.string a0_0) := (blk_cell BK656.out 0).trans rfl; have hcz19_1 : w18.cell? ⟨gb656, 1, none⟩ = some (.slice A0_1 l0_1.length c0_1) := (blk_cell BK656.out 1).trans rfl; have hcz19_2 : w18.cell? ⟨gb656, 2, none⟩ = some (.slice A0_2 l0_2.length c0_2) := (blk_cell BK656.out 2).trans rfl; have hcz19_3 : w18.cell? ⟨gb656, 3, none⟩ = some (.slice A0_3 l0_3.length c0_3) := (blk_cell BK656.out 3).trans rfl; have hcz19_4 : w18.cell? ⟨gb656, 4, none⟩ = some (.slice A0_4 l0_4.length c0_4) := (blk_cell BK656.out 4).trans rfl; have hfz19_0 := blk_frozen BK656.out 0; have hfz19_1 := blk_frozen BK656.out 1; have hfz19_2 := blk_frozen BK656.out 2; have hfz19_3 := blk_frozen BK656.out 3; have hfz19_4 := blk_frozen BK656.out 4; have p661 : 0 ≤ (x6_1 : Int) := of_decide_eq_true (by first | (with_reducible assumption) | assumption); have q661 : x6_1 < (l0_1.length : Int) := of_decide_eq_true (by first | (with_reducible assumption) | assumption); obtain ⟨ad661, e661, hx661_0, hx661_1, hx661_2, hx661_3, hx661_4, hx661_5, hx661_6⟩ := at_T105 HR0_1.out x6_1 p661 q661; (try rw [← Nbq16.out] at hx661_2); (try rw [← Nbq16.out] at hw661_2); cases e661; replace hx661_0 := (HB.out.cell (World.block_lt_of_cell? w _ hx661_0)).trans hx661_0; replace hx661_1 := (HB.out.cell (World.block_lt_of_cell? w _ hx661_1)).trans hx661_1; replace hx661_2 := (HB.out.cell (World.block_lt_of_cell? w _ hx661_2)).trans hx661_2; replace hx661_3 := (HB.out.cell (World.block_lt_of_cell? w _ hx661_3)).trans hx661_3; replace hx661_4 := (HB.out.cell (World.block_lt_of_cell? w _ hx661_4)).trans hx661_4; replace hx661_5 := (HB.out.cell (World.block_lt_of_cell? w _ hx661_5)).trans hx661_5; replace hx661_6 := (HB.out.cell (World.block_lt_of_cell? w _ hx661_6)).trans hx661_6; replace p661 := eq_true p661; replace q661 := eq_true q661)))
           go_roundg k1
           case measure => have := HK1.out; omega
           case rel => exact ⟨(wrap64 (x6_1 + 1)), (by first | rfl | (simp; done) | (simp [*]; done) | (simp [bool_ne_nil]; done) | (simp; exact bool_ne_nil _)), H', ⟨by have := HK1.out; omega⟩, ⟨by (with_reducible repeat (first | refine blk_drewN ?_ _ | refine blk_drew ?_ | refine blk_alloc ?_ _)); exact BK656.out⟩, ⟨by repeat (first | (with_reducible first | exact HB.out | apply below_alloc | apply pw_below_drewN | apply below_drew1 | refine below_set ?_ GE656.out) | exact HB.out)⟩⟩
          ·replace c17 := Bool.eq_false_iff.mpr c17
           subst c17
           have H1 : (some 35) = some r := by rw [if_neg (show ¬ (false = true) by decide)] at H; exact H
           clear H
           have H := H1
           clear H1
           obtain rfl := Option.some.inj H
           have p658 : 0 ≤ (x6_1 : Int) := of_decide_eq_true (by first | (with_reducible assumption) | assumption)
           have q658 : x6_1 < (l1.length : Int) := of_decide_eq_true (by first | (with_reducible assumption) | assumption)
           obtain ⟨ad658, e658, hx658_0, hx658_1, hx658_2, hx658_3⟩ := at_T50 HR1.out x6_1 p658 q658
           cases e658
           replace hx658_0 := (HB.out.cell (World.block_lt_of_cell? w _ hx658_0)).trans hx658_0
           replace hx658_1 := (HB.out.cell (World.block_lt_of_cell? w _ hx658_1)).trans hx658_1
           replace hx658_2 := (HB.out.cell (World.block_lt_of_cell? w _ hx658_2)).trans hx658_2
           replace hx658_3 := (HB.out.cell (World.block_lt_of_cell? w _ hx658_3)).trans hx658_3
           replace p658 := eq_true p658
           replace q658 := eq_true q658
           go_wp2_with (first | (go_at_call 69; (with_reducible refine (vellumref01_Check.calls k1 ((rd_T50 l1 x6_1).f0) ((rd_T50 l1 x6_1).f1) ((rd_T50 l1 x6_1).f2) ((rd_T50 l1 x6_1).f3) t659 _ ?side1 A12.out).mono ?_); (case side1 => exact Glob.below HG.out (by repeat (first | (with_reducible first | exact HB.out | apply below_alloc | apply pw_below_drewN | apply below_drew1 | refine below_set ?_ GE656.out) | exact HB.out))); rintro e w20 ⟨rfl, hb⟩; have n0_ := Aside0.mk (blk_below (g := gb656) (o := .cells #[.string a0_0, .slice A0_1 l0_1.length c0_1, .slice A0_2 l0_2.length c0_2, .slice A0_3 l0_3.length c0_3, .slice A0_4 l0_4.length c0_4] 65 (0, 0)) (by (with_reducible repeat (first | refine blk_drewN ?_ _ | refine blk_drew ?_ | refine blk_alloc ?_ _)); exact BK656.out) hb); have n1_ := Aside0.mk (below_step (by repeat (first | (with_reducible first | exact HB.out | apply below_alloc | apply pw_below_drewN | apply below_drew1 | refine below_set ?_ GE656.out) | exact HB.out)) hb); clear BK656; clear HB; have BK656 := n0_; have HB := n1_; clear n0_ n1_; (try clear hb); (try clear hb2); (try clear hk); (try clear hi); have p660 : 0 ≤ (x6_1 : Int) := of_decide_eq_true (by first | (with_reducible assumption) | assumption); have q660 : x6_1 < (l1.length : Int) := of_decide_eq_true (by first | (with_reducible assumption) | assumption); obtain ⟨ad660, e660, hx660_0, hx660_1, hx660_2, hx660_3⟩ := at_T50 HR1.out x6_1 p660 q660; obtain rfl : ad658 = ad660 := (by injection e660); replace hx660_0 := (HB.out.cell (World.block_lt_of_cell? w _ hx660_0)).trans hx660_0; replace hx660_1 := (HB.out.cell (World.block_lt_of_cell? w _ hx660_1)).trans hx660_1; replace hx660_2 := (HB.out.cell (World.block_lt_of_cell? w _ hx660_2)).trans hx660_2; replace hx660_3 := (HB.out.cell (World.block_lt_of_cell? w _ hx660_3)).trans hx660_3; replace p660 := eq_true p660; replace q660 := eq_true q660; have hcz21_0 : w20.cell? ⟨gb656, 0, none⟩ = some (.string a0_0) := (blk_cell BK656.out 0).trans rfl; have hcz21_1 : w20.cell? ⟨gb656, 1, none⟩ = some (.slice A0_1 l0_1.length c0_1) := (blk_cell BK656.out 1).trans rfl; have hcz21_2 : w20.cell? ⟨gb656, 2, none⟩ = some (.slice A0_2 l0_2.length c0_2) := (blk_cell BK656.out 2).trans rfl; have hcz21_3 : w20.cell? ⟨gb656, 3, none⟩ = some (.slice A0_3 l0_3.length c0_3) := (blk_cell BK656.out 3).trans rfl; have hcz21_4 : w20.cell? ⟨gb656, 4, none⟩ = some (.slice A0_4 l0_4.length c0_4) := (blk_cell BK656.out 4).trans rfl; have hfz21_0 := blk_frozen BK656.out 0; have hfz21_1 := blk_frozen BK656.out 1; have hfz21_2 := blk_frozen BK656.out 2; have hfz21_3 := blk_frozen BK656.out 3; have hfz21_4 := blk_frozen BK656.out 4; have p661 : 0 ≤ (x6_1 : Int) := of_decide_eq_true (by first | (with_reducible assumption) | assumption); have q661 : x6_1 < (l0_1.length : Int) := of_decide_eq_true (by first | (with_reducible assumption) | assumption); obtain ⟨ad661, e661, hx661_0, hx661_1, hx661_2, hx661_3, hx661_4, hx661_5, hx661_6⟩ := at_T105 HR0_1.out x6_1 p661 q661; (try rw [← Nbq16.out] at hx661_2); (try rw [← Nbq16.out] at hw661_2); cases e661; replace hx661_0 := (HB.out.cell (World.block_lt_of_cell? w _ hx661_0)).trans hx661_0; replace hx661_1 := (HB.out.cell (World.block_lt_of_cell? w _ hx661_1)).trans hx661_1; replace hx661_2 := (HB.out.cell (World.block_lt_of_cell? w _ hx661_2)).trans hx661_2; replace hx661_3 := (HB.out.cell (World.block_lt_of_cell? w _ hx661_3)).trans hx661_3; replace hx661_4 := (HB.out.cell (World.block_lt_of_cell? w _ hx661_4)).trans hx661_4; replace hx661_5 := (HB.out.cell (World.block_lt_of_cell? w _ hx661_5)).trans hx661_5; replace hx661_6 := (HB.out.cell (World.block_lt_of_cell? w _ hx661_6)).trans hx661_6; replace p661 := eq_true p661; replace q661 := eq_true q661))
           repeat (go_quiet (first | (go_at_call 69; (with_reducible refine (vellumref01_Check.calls k1 ((rd_T50 l1 x6_1).f0) ((rd_T50 l1 x6_1).f1) ((rd_T50 l1 x6_1).f2) ((rd_T50 l1 x6_1).f3) t659 _ ?side1 A12.out).mono ?_); (case side1 => exact Glob.below HG.out (by repeat (first | (with_reducible first | exact HB.out | apply below_alloc | apply pw_below_drewN | apply below_drew1 | refine below_set ?_ GE656.out) | exact HB.out))); rintro e w20 ⟨rfl, hb⟩; have n0_ := Aside0.mk (blk_below (g := gb656) (o := .cells #[.string a0_0, .slice A0_1 l0_1.length c0_1, .slice A0_2 l0_2.length c0_2, .slice A0_3 l0_3.length c0_3, .slice A0_4 l0_4.length c0_4] 65 (0, 0)) (by (with_reducible repeat (first | refine blk_drewN ?_ _ | refine blk_drew ?_ | refine blk_alloc ?_ _)); exact BK656.out) hb); have n1_ := Aside0.mk (below_step (by repeat (first | (with_reducible first | exact HB.out | apply below_alloc | apply pw_below_drewN | apply below_drew1 | refine below_set ?_ GE656.out) | exact HB.out)) hb); clear BK656; clear HB; have BK656 := n0_; have HB := n1_; clear n0_ n1_; (try clear hb); (try clear hb2); (try clear hk); (try clear hi); have p660 : 0 ≤ (x6_1 : Int) := of_decide_eq_true (by first | (with_reducible assumption) | assumption); have q660 : x6_1 < (l1.length : Int) := of_decide_eq_true (by first | (with_reducible assumption) | assumption); obtain ⟨ad660, e660, hx660_0, hx660_1, hx660_2, hx660_3⟩ := at_T50 HR1.out x6_1 p660 q660; obtain rfl : ad658 = ad660 := (by injection e660); replace hx660_0 := (HB.out.cell (World.block_lt_of_cell? w _ hx660_0)).trans hx660_0; replace hx660_1 := (HB.out.cell (World.block_lt_of_cell? w _ hx660_1)).trans hx660_1; replace hx660_2 := (HB.out.cell (World.block_lt_of_cell? w _ hx660_2)).trans hx660_2; replace hx660_3 := (HB.out.cell (World.block_lt_of_cell? w _ hx660_3)).trans hx660_3; replace p660 := eq_true p660; replace q660 := eq_true q660; have hcz21_0 : w20.cell? ⟨gb656, 0, none⟩ = some (.string a0_0) := (blk_cell BK656.out 0).trans rfl; have hcz21_1 : w20.cell? ⟨gb656, 1, none⟩ = some (.slice A0_1 l0_1.length c0_1) := (blk_cell BK656.out 1).trans rfl; have hcz21_2 : w20.cell? ⟨gb656, 2, none⟩ = some (.slice A0_2 l0_2.length c0_2) := (blk_cell BK656.out 2).trans rfl; have hcz21_3 : w20.cell? ⟨gb656, 3, none⟩ = some (.slice A0_3 l0_3.length c0_3) := (blk_cell BK656.out 3).trans rfl; have hcz21_4 : w20.cell? ⟨gb656, 4, none⟩ = some (.slice A0_4 l0_4.length c0_4) := (blk_cell BK656.out 4).trans rfl; have hfz21_0 := blk_frozen BK656.out 0; have hfz21_1 := blk_frozen BK656.out 1; have hfz21_2 := blk_frozen BK656.out 2; have hfz21_3 := blk_frozen BK656.out 3; have hfz21_4 := blk_frozen BK656.out 4; have p661 : 0 ≤ (x6_1 : Int) := of_decide_eq_true (by first | (with_reducible assumption) | assumption); have q661 : x6_1 < (l0_1.length : Int) := of_decide_eq_true (by first | (with_reducible assumption) | assumption); obtain ⟨ad661, e661, hx661_0, hx661_1, hx661_2, hx661_3, hx661_4, hx661_5, hx661_6⟩ := at_T105 HR0_1.out x6_1 p661 q661; (try rw [← Nbq16.out] at hx661_2); (try rw [← Nbq16.out] at hw661_2); cases e661; replace hx661_0 := (HB.out.cell (World.block_lt_of_cell? w _ hx661_0)).trans hx661_0; replace hx661_1 := (HB.out.cell (World.block_lt_of_cell? w _ hx661_1)).trans hx661_1; replace hx661_2 := (HB.out.cell (World.block_lt_of_cell? w _ hx661_2)).trans hx661_2; replace hx661_3 := (HB.out.cell (World.block_lt_of_cell? w _ hx661_3)).trans hx661_3; replace hx661_4 := (HB.out.cell (World.block_lt_of_cell? w _ hx661_4)).trans hx661_4; replace hx661_5 := (HB.out.cell (World.block_lt_of_cell? w _ hx661_5)).trans hx661_5; replace hx661_6 := (HB.out.cell (World.block_lt_of_cell? w _ hx661_6)).trans hx661_6; replace p661 := eq_true p661; replace q661 := eq_true q661)); try go_wp2_with (first | (go_at_call 69; (with_reducible refine (vellumref01_Check.calls k1 ((rd_T50 l1 x6_1).f0) ((rd_T50 l1 x6_1).f1) ((rd_T50 l1 x6_1).f2) ((rd_T50 l1 x6_1).f3) t659 _ ?side1 A12.out).mono ?_); (case side1 => exact Glob.below HG.out (by repeat (first | (with_reducible first | exact HB.out | apply below_alloc | apply pw_below_drewN | apply below_drew1 | refine below_set ?_ GE656.out) | exact HB.out))); rintro e w20 ⟨rfl, hb⟩; have n0_ := Aside0.mk (blk_below (g := gb656) (o := .cells #[.string a0_0, .slice A0_1 l0_1.length c0_1, .slice A0_2 l0_2.length c0_2, .slice A0_3 l0_3.length c0_3, .slice A0_4 l0_4.length c0_4] 65 (0, 0)) (by (with_reducible repeat (first | refine blk_drewN ?_ _ | refine blk_drew ?_ | refine blk_alloc ?_ _)); exact BK656.out) hb); have n1_ := Aside0.mk (below_step (by repeat (first | (with_reducible first | exact HB.out | apply below_alloc | apply pw_below_drewN | apply below_drew1 | refine below_set ?_ GE656.out) | exact HB.out)) hb); clear BK656; clear HB; have BK656 := n0_; have HB := n1_; clear n0_ n1_; (try clear hb); (try clear hb2); (try clear hk); (try clear hi); have p660 : 0 ≤ (x6_1 : Int) := of_decide_eq_true (by first | (with_reducible assumption) | assumption); have q660 : x6_1 < (l1.length : Int) := of_decide_eq_true (by first | (with_reducible assumption) | assumption); obtain ⟨ad660, e660, hx660_0, hx660_1, hx660_2, hx660_3⟩ := at_T50 HR1.out x6_1 p660 q660; obtain rfl : ad658 = ad660 := (by injection e660); replace hx660_0 := (HB.out.cell (World.block_lt_of_cell? w _ hx660_0)).trans hx660_0; replace hx660_1 := (HB.out.cell (World.block_lt_of_cell? w _ hx660_1)).trans hx660_1; replace hx660_2 := (HB.out.cell (World.block_lt_of_cell? w _ hx660_2)).trans hx660_2; replace hx660_3 := (HB.out.cell (World.block_lt_of_cell? w _ hx660_3)).trans hx660_3; replace p660 := eq_true p660; replace q660 := eq_true q660; have hcz21_0 : w20.cell? ⟨gb656, 0, none⟩ = some (.string a0_0) := (blk_cell BK656.out 0).trans rfl; have hcz21_1 : w20.cell? ⟨gb656, 1, none⟩ = some (.slice A0_1 l0_1.length c0_1) := (blk_cell BK656.out 1).trans rfl; have hcz21_2 : w20.cell? ⟨gb656, 2, none⟩ = some (.slice A0_2 l0_2.length c0_2) := (blk_cell BK656.out 2).trans rfl; have hcz21_3 : w20.cell? ⟨gb656, 3, none⟩ = some (.slice A0_3 l0_3.length c0_3) := (blk_cell BK656.out 3).trans rfl; have hcz21_4 : w20.cell? ⟨gb656, 4, none⟩ = some (.slice A0_4 l0_4.length c0_4) := (blk_cell BK656.out 4).trans rfl; have hfz21_0 := blk_frozen BK656.out 0; have hfz21_1 := blk_frozen BK656.out 1; have hfz21_2 := blk_frozen BK656.out 2; have hfz21_3 := blk_frozen BK656.out 3; have hfz21_4 := blk_frozen BK656.out 4; have p661 : 0 ≤ (x6_1 : Int) := of_decide_eq_true (by first | (with_reducible assumption) | assumption); have q661 : x6_1 < (l0_1.length : Int) := of_decide_eq_true (by first | (with_reducible assumption) | assumption); obtain ⟨ad661, e661, hx661_0, hx661_1, hx661_2, hx661_3, hx661_4, hx661_5, hx661_6⟩ := at_T105 HR0_1.out x6_1 p661 q661; (try rw [← Nbq16.out] at hx661_2); (try rw [← Nbq16.out] at hw661_2); cases e661; replace hx661_0 := (HB.out.cell (World.block_lt_of_cell? w _ hx661_0)).trans hx661_0; replace hx661_1 := (HB.out.cell (World.block_lt_of_cell? w _ hx661_1)).trans hx661_1; replace hx661_2 := (HB.out.cell (World.block_lt_of_cell? w _ hx661_2)).trans hx661_2; replace hx661_3 := (HB.out.cell (World.block_lt_of_cell? w _ hx661_3)).trans hx661_3; replace hx661_4 := (HB.out.cell (World.block_lt_of_cell? w _ hx661_4)).trans hx661_4; replace hx661_5 := (HB.out.cell (World.block_lt_of_cell? w _ hx661_5)).trans hx661_5; replace hx661_6 := (HB.out.cell (World.block_lt_of_cell? w _ hx661_6)).trans hx661_6; replace p661 := eq_true p661; replace q661 := eq_true q661)))
           go_ret
           exact ⟨by first | rfl | (simp [errW_none, errW_some] <;> rfl) | (simp [*, errW_none, errW_some] <;> rfl), by repeat (first | (with_reducible first | exact HB.out | apply below_alloc | apply pw_below_drewN | apply below_drew1 | refine below_set ?_ GE656.out) | exact HB.out)⟩
         ·rw [if_neg c15] at H
          exact absurd H (by simp)
        ·rw [if_neg c14] at H
         have c14b0 : (((rd_T50 l1 x6_1).f0) == 0) = false := beq_eq_false_iff_ne.mpr c14
         have c14b1 : (((rd_T50 l1 x6_1).f0) != 0) = true := bne_iff_ne.mpr c14
         by_cases c22 : x6_1 < (l0_1.length : Int)
         ·rw [if_pos c22] at H
          have c22b0 : decide (x6_1 < (l0_1.length : Int)) = true := decide_eq_true c22
          clear c22
          by_cases c23 : ((rd_T50 l1 x6_1).f0) = ((rd_T105 l0_1 x6_1).f1)
          ·rw [if_pos c23] at H
           have c23b0 : (((rd_T50 l1 x6_1).f0) == ((rd_T105 l0_1 x6_1).f1)) = true := beq_iff_eq.mpr c23
           have c23b1 : (((rd_T50 l1 x6_1).f0) != ((rd_T105 l0_1 x6_1).f1)) = false := bne_eq_false_iff_eq.mpr c23
           clear c23
           have H' := Aside0.mk H
           clear H
           have p658 : 0 ≤ (x6_1 : Int) := of_decide_eq_true (by first | (with_reducible assumption) | assumption)
           have q658 : x6_1 < (l1.length : Int) := of_decide_eq_true (by first | (with_reducible assumption) | assumption)
           obtain ⟨ad658, e658, hx658_0, hx658_1, hx658_2, hx658_3⟩ := at_T50 HR1.out x6_1 p658 q658
           cases e658
           replace hx658_0 := (HB.out.cell (World.block_lt_of_cell? w _ hx658_0)).trans hx658_0
           replace hx658_1 := (HB.out.cell (World.block_lt_of_cell? w _ hx658_1)).trans hx658_1
           replace hx658_2 := (HB.out.cell (World.block_lt_of_cell? w _ hx658_2)).trans hx658_2
           replace hx658_3 := (HB.out.cell (World.block_lt_of_cell? w _ hx658_3)).trans hx658_3
           replace p658 := eq_true p658
           replace q658 := eq_true q658
           go_wp2_with (first | (go_at_call 69; (with_reducible refine (vellumref01_Check.calls k1 ((rd_T50 l1 x6_1).f0) ((rd_T50 l1 x6_1).f1) ((rd_T50 l1 x6_1).f2) ((rd_T50 l1 x6_1).f3) t659 _ ?side1 A12.out).mono ?_); (case side1 => exact Glob.below HG.out (by repeat (first | (with_reducible first | exact HB.out | apply below_alloc | apply pw_below_drewN | apply below_drew1 | refine below_set ?_ GE656.out) | exact HB.out))); rintro e w24 ⟨rfl, hb⟩; have n0_ := Aside0.mk (blk_below (g := gb656) (o := .cells #[.string a0_0, .slice A0_1 l0_1.length c0_1, .slice A0_2 l0_2.length c0_2, .slice A0_3 l0_3.length c0_3, .slice A0_4 l0_4.length c0_4] 65 (0, 0)) (by (with_reducible repeat (first | refine blk_drewN ?_ _ | refine blk_drew ?_ | refine blk_alloc ?_ _)); exact BK656.out) hb); have n1_ := Aside0.mk (below_step (by repeat (first | (with_reducible first | exact HB.out | apply below_alloc | apply pw_below_drewN | apply below_drew1 | refine below_set ?_ GE656.out) | exact HB.out)) hb); clear BK656; clear HB; have BK656 := n0_; have HB := n1_; clear n0_ n1_; (try clear hb); (try clear hb2); (try clear hk); (try clear hi); have p660 : 0 ≤ (x6_1 : Int) := of_decide_eq_true (by first | (with_reducible assumption) | assumption); have q660 : x6_1 < (l1.length : Int) := of_decide_eq_true (by first | (with_reducible assumption) | assumption); obtain ⟨ad660, e660, hx660_0, hx660_1, hx660_2, hx660_3⟩ := at_T50 HR1.out x6_1 p660 q660; obtain rfl : ad658 = ad660 := (by injection e660); replace hx660_0 := (HB.out.cell (World.block_lt_of_cell? w _ hx660_0)).trans hx660_0; replace hx660_1 := (HB.out.cell (World.block_lt_of_cell? w _ hx660_1)).trans hx660_1; replace hx660_2 := (HB.out.cell (World.block_lt_of_cell? w _ hx660_2)).trans hx660_2; replace hx660_3 := (HB.out.cell (World.block_lt_of_cell? w _ hx660_3)).trans hx660_3; replace p660 := eq_true p660; replace q660 := eq_true q660; have p662 : 0 ≤ (x6_1 : Int) := of_decide_eq_true (by first | (with_reducible assumption) | assumption); have q662 : x6_1 < (l1.length : Int) := of_decide_eq_true (by first | (with_reducible assumption) | assumption); obtain ⟨ad662, e662, hx662_0, hx662_1, hx662_2, hx662_3⟩ := at_T50 HR1.out x6_1 p662 q662; obtain rfl : ad658 = ad662 := (by injection e662); replace hx662_0 := (HB.out.cell (World.block_lt_of_cell? w _ hx662_0)).trans hx662_0; replace hx662_1 := (HB.out.cell (World.block_lt_of_cell? w _ hx662_1)).trans hx662_1; replace hx662_2 := (HB.out.cell (World.block_lt_of_cell? w _ hx662_2)).trans hx662_2; replace hx662_3 := (HB.out.cell (World.block_lt_of_cell? w _ hx662_3)).trans hx662_3; replace p662 := eq_true p662; replace q662 := eq_true q662; have hcz25_0 : w24.cell? ⟨gb656, 0, none⟩ = some (.string a0_0) := (blk_cell BK656.out 0).trans rfl; have hcz25_1 : w24.cell? ⟨gb656, 1, none⟩ = some (.slice A0_1 l0_1.length c0_1) := (blk_cell BK656.out 1).trans rfl; have hcz25_2 : w24.cell? ⟨gb656, 2, none⟩ = some (.slice A0_2 l0_2.length c0_2) := (blk_cell BK656.out 2).trans rfl; have hcz25_3 : w24.cell? ⟨gb656, 3, none⟩ = some (.slice A0_3 l0_3.length c0_3) := (blk_cell BK656.out 3).trans rfl; have hcz25_4 : w24.cell? ⟨gb656, 4, none⟩ = some (.slice A0_4 l0_4.length c0_4) := (blk_cell BK656.out 4).trans rfl; have hfz25_0 := blk_frozen BK656.out 0; have hfz25_1 := blk_frozen BK656.out 1; have hfz25_2 := blk_frozen BK656.out 2; have hfz25_3 := blk_frozen BK656.out 3; have hfz25_4 := blk_frozen BK656.out 4; have p663 : 0 ≤ (x6_1 : Int) := of_decide_eq_true (by first | (with_reducible assumption) | assumption); have q663 : x6_1 < (l0_1.length : Int) := of_decide_eq_true (by first | (with_reducible assumption) | assumption); obtain ⟨ad663, e663, hx663_0, hx663_1, hx663_2, hx663_3, hx663_4, hx663_5, hx663_6⟩ := at_T105 HR0_1.out x6_1 p663 q663; cases e663; replace hx663_0 := (HB.out.cell (World.block_lt_of_cell? w _ hx663_0)).trans hx663_0; replace hx663_1 := (HB.out.cell (World.block_lt_of_cell? w _ hx663_1)).trans hx663_1; replace hx663_2 := (HB.out.cell (World.block_lt_of_cell? w _ hx663_2)).trans hx663_2; replace hx663_3 := (HB.out.cell (World.block_lt_of_cell? w _ hx663_3)).trans hx663_3; replace hx663_4 := (HB.out.cell (World.block_lt_of_cell? w _ hx663_4)).trans hx663_4; replace hx663_5 := (HB.out.cell (World.block_lt_of_cell? w _ hx663_5)).trans hx663_5; replace hx663_6 := (HB.out.cell (World.block_lt_of_cell? w _ hx663_6)).trans hx663_6; replace p663 := eq_true p663; replace q663 := eq_true q663))
           repeat (go_quiet (first | (go_at_call 69; (with_reducible refine (vellumref01_Check.calls k1 ((rd_T50 l1 x6_1).f0) ((rd_T50 l1 x6_1).f1) ((rd_T50 l1 x6_1).f2) ((rd_T50 l1 x6_1).f3) t659 _ ?side1 A12.out).mono ?_); (case side1 => exact Glob.below HG.out (by repeat (first | (with_reducible first | exact HB.out | apply below_alloc | apply pw_below_drewN | apply below_drew1 | refine below_set ?_ GE656.out) | exact HB.out))); rintro e w24 ⟨rfl, hb⟩; have n0_ := Aside0.mk (blk_below (g := gb656) (o := .cells #[.string a0_0, .slice A0_1 l0_1.length c0_1, .slice A0_2 l0_2.length c0_2, .slice A0_3 l0_3.length c0_3, .slice A0_4 l0_4.length c0_4] 65 (0, 0)) (by (with_reducible repeat (first | refine blk_drewN ?_ _ | refine blk_drew ?_ | refine blk_alloc ?_ _)); exact BK656.out) hb); have n1_ := Aside0.mk (below_step (by repeat (first | (with_reducible first | exact HB.out | apply below_alloc | apply pw_below_drewN | apply below_drew1 | refine below_set ?_ GE656.out) | exact HB.out)) hb); clear BK656; clear HB; have BK656 := n0_; have HB := n1_; clear n0_ n1_; (try clear hb); (try clear hb2); (try clear hk); (try clear hi); have p660 : 0 ≤ (x6_1 : Int) := of_decide_eq_true (by first | (with_reducible assumption) | assumption); have q660 : x6_1 < (l1.length : Int) := of_decide_eq_true (by first | (with_reducible assumption) | assumption); obtain ⟨ad660, e660, hx660_0, hx660_1, hx660_2, hx660_3⟩ := at_T50 HR1.out x6_1 p660 q660; obtain rfl : ad658 = ad660 := (by injection e660); replace hx660_0 := (HB.out.cell (World.block_lt_of_cell? w _ hx660_0)).trans hx660_0; replace hx660_1 := (HB.out.cell (World.block_lt_of_cell? w _ hx660_1)).trans hx660_1; replace hx660_2 := (HB.out.cell (World.block_lt_of_cell? w _ hx660_2)).trans hx660_2; replace hx660_3 := (HB.out.cell (World.block_lt_of_cell? w _ hx660_3)).trans hx660_3; replace p660 := eq_true p660; replace q660 := eq_true q660; have p662 : 0 ≤ (x6_1 : Int) := of_decide_eq_true (by first | (with_reducible assumption) | assumption); have q662 : x6_1 < (l1.length : Int) := of_decide_eq_true (by first | (with_reducible assumption) | assumption); obtain ⟨ad662, e662, hx662_0, hx662_1, hx662_2, hx662_3⟩ := at_T50 HR1.out x6_1 p662 q662; obtain rfl : ad658 = ad662 := (by injection e662); replace hx662_0 := (HB.out.cell (World.block_lt_of_cell? w _ hx662_0)).trans hx662_0; replace hx662_1 := (HB.out.cell (World.block_lt_of_cell? w _ hx662_1)).trans hx662_1; replace hx662_2 := (HB.out.cell (World.block_lt_of_cell? w _ hx662_2)).trans hx662_2; replace hx662_3 := (HB.out.cell (World.block_lt_of_cell? w _ hx662_3)).trans hx662_3; replace p662 := eq_true p662; replace q662 := eq_true q662; have hcz25_0 : w24.cell? ⟨gb656, 0, none⟩ = some (.string a0_0) := (blk_cell BK656.out 0).trans rfl; have hcz25_1 : w24.cell? ⟨gb656, 1, none⟩ = some (.slice A0_1 l0_1.length c0_1) := (blk_cell BK656.out 1).trans rfl; have hcz25_2 : w24.cell? ⟨gb656, 2, none⟩ = some (.slice A0_2 l0_2.length c0_2) := (blk_cell BK656.out 2).trans rfl; have hcz25_3 : w24.cell? ⟨gb656, 3, none⟩ = some (.slice A0_3 l0_3.length c0_3) := (blk_cell BK656.out 3).trans rfl; have hcz25_4 : w24.cell? ⟨gb656, 4, none⟩ = some (.slice A0_4 l0_4.length c0_4) := (blk_cell BK656.out 4).trans rfl; have hfz25_0 := blk_frozen BK656.out 0; have hfz25_1 := blk_frozen BK656.out 1; have hfz25_2 := blk_frozen BK656.out 2; have hfz25_3 := blk_frozen BK656.out 3; have hfz25_4 := blk_frozen BK656.out 4; have p663 : 0 ≤ (x6_1 : Int) := of_decide_eq_true (by first | (with_reducible assumption) | assumption); have q663 : x6_1 < (l0_1.length : Int) := of_decide_eq_true (by first | (with_reducible assumption) | assumption); obtain ⟨ad663, e663, hx663_0, hx663_1, hx663_2, hx663_3, hx663_4, hx663_5, hx663_6⟩ := at_T105 HR0_1.out x6_1 p663 q663; cases e663; replace hx663_0 := (HB.out.cell (World.block_lt_of_cell? w _ hx663_0)).trans hx663_0; replace hx663_1 := (HB.out.cell (World.block_lt_of_cell? w _ hx663_1)).trans hx663_1; replace hx663_2 := (HB.out.cell (World.block_lt_of_cell? w _ hx663_2)).trans hx663_2; replace hx663_3 := (HB.out.cell (World.block_lt_of_cell? w _ hx663_3)).trans hx663_3; replace hx663_4 := (HB.out.cell (World.block_lt_of_cell? w _ hx663_4)).trans hx663_4; replace hx663_5 := (HB.out.cell (World.block_lt_of_cell? w _ hx663_5)).trans hx663_5; replace hx663_6 := (HB.out.cell (World.block_lt_of_cell? w _ hx663_6)).trans hx663_6; replace p663 := eq_true p663; replace q663 := eq_true q663)); try go_wp2_with (first | (go_at_call 69; (with_reducible refine (vellumref01_Check.calls k1 ((rd_T50 l1 x6_1).f0) ((rd_T50 l1 x6_1).f1) ((rd_T50 l1 x6_1).f2) ((rd_T50 l1 x6_1).f3) t659 _ ?side1 A12.out).mono ?_); (case side1 => exact Glob.below HG.out (by repeat (first | (with_reducible first | exact HB.out | apply below_alloc | apply pw_below_drewN | apply below_drew1 | refine below_set ?_ GE656.out) | exact HB.out))); rintro e w24 ⟨rfl, hb⟩; have n0_ := Aside0.mk (blk_below (g := gb656) (o := .cells #[.string a0_0, .slice A0_1 l0_1.length c0_1, .slice A0_2 l0_2.length c0_2, .slice A0_3 l0_3.length c0_3, .slice A0_4 l0_4.length c0_4] 65 (0, 0)) (by (with_reducible repeat (first | refine blk_drewN ?_ _ | refine blk_drew ?_ | refine blk_alloc ?_ _)); exact BK656.out) hb); have n1_ := Aside0.mk (below_step (by repeat (first | (with_reducible first | exact HB.out | apply below_alloc | apply pw_below_drewN | apply below_drew1 | refine below_set ?_ GE656.out) | exact HB.out)) hb); clear BK656; clear HB; have BK656 := n0_; have HB := n1_; clear n0_ n1_; (try clear hb); (try clear hb2); (try clear hk); (try clear hi); have p660 : 0 ≤ (x6_1 : Int) := of_decide_eq_true (by first | (with_reducible assumption) | assumption); have q660 : x6_1 < (l1.length : Int) := of_decide_eq_true (by first | (with_reducible assumption) | assumption); obtain ⟨ad660, e660, hx660_0, hx660_1, hx660_2, hx660_3⟩ := at_T50 HR1.out x6_1 p660 q660; obtain rfl : ad658 = ad660 := (by injection e660); replace hx660_0 := (HB.out.cell (World.block_lt_of_cell? w _ hx660_0)).trans hx660_0; replace hx660_1 := (HB.out.cell (World.block_lt_of_cell? w _ hx660_1)).trans hx660_1; replace hx660_2 := (HB.out.cell (World.block_lt_of_cell? w _ hx660_2)).trans hx660_2; replace hx660_3 := (HB.out.cell (World.block_lt_of_cell? w _ hx660_3)).trans hx660_3; replace p660 := eq_true p660; replace q660 := eq_true q660; have p662 : 0 ≤ (x6_1 : Int) := of_decide_eq_true (by first | (with_reducible assumption) | assumption); have q662 : x6_1 < (l1.length : Int) := of_decide_eq_true (by first | (with_reducible assumption) | assumption); obtain ⟨ad662, e662, hx662_0, hx662_1, hx662_2, hx662_3⟩ := at_T50 HR1.out x6_1 p662 q662; obtain rfl : ad658 = ad662 := (by injection e662); replace hx662_0 := (HB.out.cell (World.block_lt_of_cell? w _ hx662_0)).trans hx662_0; replace hx662_1 := (HB.out.cell (World.block_lt_of_cell? w _ hx662_1)).trans hx662_1; replace hx662_2 := (HB.out.cell (World.block_lt_of_cell? w _ hx662_2)).trans hx662_2; replace hx662_3 := (HB.out.cell (World.block_lt_of_cell? w _ hx662_3)).trans hx662_3; replace p662 := eq_true p662; replace q662 := eq_true q662; have hcz25_0 : w24.cell? ⟨gb656, 0, none⟩ = some (.string a0_0) := (blk_cell BK656.out 0).trans rfl; have hcz25_1 : w24.cell? ⟨gb656, 1, none⟩ = some (.slice A0_1 l0_1.length c0_1) := (blk_cell BK656.out 1).trans rfl; have hcz25_2 : w24.cell? ⟨gb656, 2, none⟩ = some (.slice A0_2 l0_2.length c0_2) := (blk_cell BK656.out 2).trans rfl; have hcz25_3 : w24.cell? ⟨gb656, 3, none⟩ = some (.slice A0_3 l0_3.length c0_3) := (blk_cell BK656.out 3).trans rfl; have hcz25_4 : w24.cell? ⟨gb656, 4, none⟩ = some (.slice A0_4 l0_4.length c0_4) := (blk_cell BK656.out 4).trans rfl; have hfz25_0 := blk_frozen BK656.out 0; have hfz25_1 := blk_frozen BK656.out 1; have hfz25_2 := blk_frozen BK656.out 2; have hfz25_3 := blk_frozen BK656.out 3; have hfz25_4 := blk_frozen BK656.out 4; have p663 : 0 ≤ (x6_1 : Int) := of_decide_eq_true (by first | (with_reducible assumption) | assumption); have q663 : x6_1 < (l0_1.length : Int) := of_decide_eq_true (by first | (with_reducible assumption) | assumption); obtain ⟨ad663, e663, hx663_0, hx663_1, hx663_2, hx663_3, hx663_4, hx663_5, hx663_6⟩ := at_T105 HR0_1.out x6_1 p663 q663; cases e663; replace hx663_0 := (HB.out.cell (World.block_lt_of_cell? w _ hx663_0)).trans hx663_0; replace hx663_1 := (HB.out.cell (World.block_lt_of_cell? w _ hx663_1)).trans hx663_1; replace hx663_2 := (HB.out.cell (World.block_lt_of_cell? w _ hx663_2)).trans hx663_2; replace hx663_3 := (HB.out.cell (World.block_lt_of_cell? w _ hx663_3)).trans hx663_3; replace hx663_4 := (HB.out.cell (World.block_lt_of_cell? w _ hx663_4)).trans hx663_4; replace hx663_5 := (HB.out.cell (World.block_lt_of_cell? w _ hx663_5)).trans hx663_5; replace hx663_6 := (HB.out.cell (World.block_lt_of_cell? w _ hx663_6)).trans hx663_6; replace p663 := eq_true p663; replace q663 := eq_true q663)))
           go_roundg k1
           case measure => have := HK1.out; omega
           case rel => exact ⟨(wrap64 (x6_1 + 1)), (by first | rfl | (simp; done) | (simp [*]; done) | (simp [bool_ne_nil]; done) | (simp; exact bool_ne_nil _)), H', ⟨by have := HK1.out; omega⟩, ⟨by (with_reducible repeat (first | refine blk_drewN ?_ _ | refine blk_drew ?_ | refine blk_alloc ?_ _)); exact BK656.out⟩, ⟨by repeat (first | (with_reducible first | exact HB.out | apply below_alloc | apply pw_below_drewN | apply below_drew1 | refine below_set ?_ GE656.out) | exact HB.out)⟩⟩
          ·rw [if_neg c23] at H
           have c23b0 : (((rd_T50 l1 x6_1).f0) == ((rd_T105 l0_1 x6_1).f1)) = false := beq_eq_false_iff_ne.mpr c23
           have c23b1 : (((rd_T50 l1 x6_1).f0) != ((rd_T105 l0_1 x6_1).f1)) = true := bne_iff_ne.mpr c23
           obtain rfl := Option.some.inj H
           have p658 : 0 ≤ (x6_1 : Int) := of_decide_eq_true (by first | (with_reducible assumption) | assumption)
           have q658 : x6_1 < (l1.length : Int) := of_decide_eq_true (by first | (with_reducible assumption) | assumption)
           obtain ⟨ad658, e658, hx658_0, hx658_1, hx658_2, hx658_3⟩ := at_T50 HR1.out x6_1 p658 q658
           cases e658
           replace hx658_0 := (HB.out.cell (World.block_lt_of_cell? w _ hx658_0)).trans hx658_0
           replace hx658_1 := (HB.out.cell (World.block_lt_of_cell? w _ hx658_1)).trans hx658_1
           replace hx658_2 := (HB.out.cell (World.block_lt_of_cell? w _ hx658_2)).trans hx658_2
           replace hx658_3 := (HB.out.cell (World.block_lt_of_cell? w _ hx658_3)).trans hx658_3
           replace p658 := eq_true p658
           replace q658 := eq_true q658
           go_wp2_with (first | (go_at_call 69; (with_reducible refine (vellumref01_Check.calls k1 ((rd_T50 l1 x6_1).f0) ((rd_T50 l1 x6_1).f1) ((rd_T50 l1 x6_1).f2) ((rd_T50 l1 x6_1).f3) t659 _ ?side1 A12.out).mono ?_); (case side1 => exact Glob.below HG.out (by repeat (first | (with_reducible first | exact HB.out | apply below_alloc | apply pw_below_drewN | apply below_drew1 | refine below_set ?_ GE656.out) | exact HB.out))); rintro e w26 ⟨rfl, hb⟩; have n0_ := Aside0.mk (blk_below (g := gb656) (o := .cells #[.string a0_0, .slice A0_1 l0_1.length c0_1, .slice A0_2 l0_2.length c0_2, .slice A0_3 l0_3.length c0_3, .slice A0_4 l0_4.length c0_4] 65 (0, 0)) (by (with_reducible repeat (first | refine blk_drewN ?_ _ | refine blk_drew ?_ | refine blk_alloc ?_ _)); exact BK656.out) hb); have n1_ := Aside0.mk (below_step (by repeat (first | (with_reducible first | exact HB.out | apply below_alloc | apply pw_below_drewN | apply below_drew1 | refine below_set ?_ GE656.out) | exact HB.out)) hb); clear BK656; clear HB; have BK656 := n0_; have HB := n1_; clear n0_ n1_; (try clear hb); (try clear hb2); (try clear hk); (try clear hi); have p660 : 0 ≤ (x6_1 : Int) := of_decide_eq_true (by first | (with_reducible assumption) | assumption); have q660 : x6_1 < (l1.length : Int) := of_decide_eq_true (by first | (with_reducible assumption) | assumption); obtain ⟨ad660, e660, hx660_0, hx660_1, hx660_2, hx660_3⟩ := at_T50 HR1.out x6_1 p660 q660; obtain rfl : ad658 = ad660 := (by injection e660); replace hx660_0 := (HB.out.cell (World.block_lt_of_cell? w _ hx660_0)).trans hx660_0; replace hx660_1 := (HB.out.cell (World.block_lt_of_cell? w _ hx660_1)).trans hx660_1; replace hx660_2 := (HB.out.cell (World.block_lt_of_cell? w _ hx660_2)).trans hx660_2; replace hx660_3 := (HB.out.cell (World.block_lt_of_cell? w _ hx660_3)).trans hx660_3; replace p660 := eq_true p660; replace q660 := eq_true q660; have p662 : 0 ≤ (x6_1 : Int) := of_decide_eq_true (by first | (with_reducible assumption) | assumption); have q662 : x6_1 < (l1.length : Int) := of_decide_eq_true (by first | (with_reducible assumption) | assumption); obtain ⟨ad662, e662, hx662_0, hx662_1, hx662_2, hx662_3⟩ := at_T50 HR1.out x6_1 p662 q662; obtain rfl : ad658 = ad662 := (by injection e662); replace hx662_0 := (HB.out.cell (World.block_lt_of_cell? w _ hx662_0)).trans hx662_0; replace hx662_1 := (HB.out.cell (World.block_lt_of_cell? w _ hx662_1)).trans hx662_1; replace hx662_2 := (HB.out.cell (World.block_lt_of_cell? w _ hx662_2)).trans hx662_2; replace hx662_3 := (HB.out.cell (World.block_lt_of_cell? w _ hx662_3)).trans hx662_3; replace p662 := eq_true p662; replace q662 := eq_true q662; have hcz27_0 : w26.cell? ⟨gb656, 0, none⟩ = some (.string a0_0) := (blk_cell BK656.out 0).trans rfl; have hcz27_1 : w26.cell? ⟨gb656, 1, none⟩ = some (.slice A0_1 l0_1.length c0_1) := (blk_cell BK656.out 1).trans rfl; have hcz27_2 : w26.cell? ⟨gb656, 2, none⟩ = some (.slice A0_2 l0_2.length c0_2) := (blk_cell BK656.out 2).trans rfl; have hcz27_3 : w26.cell? ⟨gb656, 3, none⟩ = some (.slice A0_3 l0_3.length c0_3) := (blk_cell BK656.out 3).trans rfl; have hcz27_4 : w26.cell? ⟨gb656, 4, none⟩ = some (.slice A0_4 l0_4.length c0_4) := (blk_cell BK656.out 4).trans rfl; have hfz27_0 := blk_frozen BK656.out 0; have hfz27_1 := blk_frozen BK656.out 1; have hfz27_2 := blk_frozen BK656.out 2; have hfz27_3 := blk_frozen BK656.out 3; have hfz27_4 := blk_frozen BK656.out 4; have p663 : 0 ≤ (x6_1 : Int) := of_decide_eq_true (by first | (with_reducible assumption) | assumption); have q663 : x6_1 < (l0_1.length : Int) := of_decide_eq_true (by first | (with_reducible assumption) | assumption); obtain ⟨ad663, e663, hx663_0, hx663_1, hx663_2, hx663_3, hx663_4, hx663_5, hx663_6⟩ := at_T105 HR0_1.out x6_1 p663 q663; cases e663; replace hx663_0 := (HB.out.cell (World.block_lt_of_cell? w _ hx663_0)).trans hx663_0; replace hx663_1 := (HB.out.cell (World.block_lt_of_cell? w _ hx663_1)).trans hx663_1; replace hx663_2 := (HB.out.cell (World.block_lt_of_cell? w _ hx663_2)).trans hx663_2; replace hx663_3 := (HB.out.cell (World.block_lt_of_cell? w _ hx663_3)).trans hx663_3; replace hx663_4 := (HB.out.cell (World.block_lt_of_cell? w _ hx663_4)).trans hx663_4; replace hx663_5 := (HB.out.cell (World.block_lt_of_cell? w _ hx663_5)).trans hx663_5; replace hx663_6 := (HB.out.cell (World.block_lt_of_cell? w _ hx663_6)).trans hx663_6; replace p663 := eq_true p663; replace q663 := eq_true q663))
           repeat (go_quiet (first | (go_at_call 69; (with_reducible refine (vellumref01_Check.calls k1 ((rd_T50 l1 x6_1).f0) ((rd_T50 l1 x6_1).f1) ((rd_T50 l1 x6_1).f2) ((rd_T50 l1 x6_1).f3) t659 _ ?side1 A12.out).mono ?_); (case side1 => exact Glob.below HG.out (by repeat (first | (with_reducible first | exact HB.out | apply below_alloc | apply pw_below_drewN | apply below_drew1 | refine below_set ?_ GE656.out) | exact HB.out))); rintro e w26 ⟨rfl, hb⟩; have n0_ := Aside0.mk (blk_below (g := gb656) (o := .cells #[.string a0_0, .slice A0_1 l0_1.length c0_1, .slice A0_2 l0_2.length c0_2, .slice A0_3 l0_3.length c0_3, .slice A0_4 l0_4.length c0_4] 65 (0, 0)) (by (with_reducible repeat (first | refine blk_drewN ?_ _ | refine blk_drew ?_ | refine blk_alloc ?_ _)); exact BK656.out) hb); have n1_ := Aside0.mk (below_step (by repeat (first | (with_reducible first | exact HB.out | apply below_alloc | apply pw_below_drewN | apply below_drew1 | refine below_set ?_ GE656.out) | exact HB.out)) hb); clear BK656; clear HB; have BK656 := n0_; have HB := n1_; clear n0_ n1_; (try clear hb); (try clear hb2); (try clear hk); (try clear hi); have p660 : 0 ≤ (x6_1 : Int) := of_decide_eq_true (by first | (with_reducible assumption) | assumption); have q660 : x6_1 < (l1.length : Int) := of_decide_eq_true (by first | (with_reducible assumption) | assumption); obtain ⟨ad660, e660, hx660_0, hx660_1, hx660_2, hx660_3⟩ := at_T50 HR1.out x6_1 p660 q660; obtain rfl : ad658 = ad660 := (by injection e660); replace hx660_0 := (HB.out.cell (World.block_lt_of_cell? w _ hx660_0)).trans hx660_0; replace hx660_1 := (HB.out.cell (World.block_lt_of_cell? w _ hx660_1)).trans hx660_1; replace hx660_2 := (HB.out.cell (World.block_lt_of_cell? w _ hx660_2)).trans hx660_2; replace hx660_3 := (HB.out.cell (World.block_lt_of_cell? w _ hx660_3)).trans hx660_3; replace p660 := eq_true p660; replace q660 := eq_true q660; have p662 : 0 ≤ (x6_1 : Int) := of_decide_eq_true (by first | (with_reducible assumption) | assumption); have q662 : x6_1 < (l1.length : Int) := of_decide_eq_true (by first | (with_reducible assumption) | assumption); obtain ⟨ad662, e662, hx662_0, hx662_1, hx662_2, hx662_3⟩ := at_T50 HR1.out x6_1 p662 q662; obtain rfl : ad658 = ad662 := (by injection e662); replace hx662_0 := (HB.out.cell (World.block_lt_of_cell? w _ hx662_0)).trans hx662_0; replace hx662_1 := (HB.out.cell (World.block_lt_of_cell? w _ hx662_1)).trans hx662_1; replace hx662_2 := (HB.out.cell (World.block_lt_of_cell? w _ hx662_2)).trans hx662_2; replace hx662_3 := (HB.out.cell (World.block_lt_of_cell? w _ hx662_3)).trans hx662_3; replace p662 := eq_true p662; replace q662 := eq_true q662; have hcz27_0 : w26.cell? ⟨gb656, 0, none⟩ = some (.string a0_0) := (blk_cell BK656.out 0).trans rfl; have hcz27_1 : w26.cell? ⟨gb656, 1, none⟩ = some (.slice A0_1 l0_1.length c0_1) := (blk_cell BK656.out 1).trans rfl; have hcz27_2 : w26.cell? ⟨gb656, 2, none⟩ = some (.slice A0_2 l0_2.length c0_2) := (blk_cell BK656.out 2).trans rfl; have hcz27_3 : w26.cell? ⟨gb656, 3, none⟩ = some (.slice A0_3 l0_3.length c0_3) := (blk_cell BK656.out 3).trans rfl; have hcz27_4 : w26.cell? ⟨gb656, 4, none⟩ = some (.slice A0_4 l0_4.length c0_4) := (blk_cell BK656.out 4).trans rfl; have hfz27_0 := blk_frozen BK656.out 0; have hfz27_1 := blk_frozen BK656.out 1; have hfz27_2 := blk_frozen BK656.out 2; have hfz27_3 := blk_frozen BK656.out 3; have hfz27_4 := blk_frozen BK656.out 4; have p663 : 0 ≤ (x6_1 : Int) := of_decide_eq_true (by first | (with_reducible assumption) | assumption); have q663 : x6_1 < (l0_1.length : Int) := of_decide_eq_true (by first | (with_reducible assumption) | assumption); obtain ⟨ad663, e663, hx663_0, hx663_1, hx663_2, hx663_3, hx663_4, hx663_5, hx663_6⟩ := at_T105 HR0_1.out x6_1 p663 q663; cases e663; replace hx663_0 := (HB.out.cell (World.block_lt_of_cell? w _ hx663_0)).trans hx663_0; replace hx663_1 := (HB.out.cell (World.block_lt_of_cell? w _ hx663_1)).trans hx663_1; replace hx663_2 := (HB.out.cell (World.block_lt_of_cell? w _ hx663_2)).trans hx663_2; replace hx663_3 := (HB.out.cell (World.block_lt_of_cell? w _ hx663_3)).trans hx663_3; replace hx663_4 := (HB.out.cell (World.block_lt_of_cell? w _ hx663_4)).trans hx663_4; replace hx663_5 := (HB.out.cell (World.block_lt_of_cell? w _ hx663_5)).trans hx663_5; replace hx663_6 := (HB.out.cell (World.block_lt_of_cell? w _ hx663_6)).trans hx663_6; replace p663 := eq_true p663; replace q663 := eq_true q663)); try go_wp2_with (first | (go_at_call 69; (with_reducible refine (vellumref01_Check.calls k1 ((rd_T50 l1 x6_1).f0) ((rd_T50 l1 x6_1).f1) ((rd_T50 l1 x6_1).f2) ((rd_T50 l1 x6_1).f3) t659 _ ?side1 A12.out).mono ?_); (case side1 => exact Glob.below HG.out (by repeat (first | (with_reducible first | exact HB.out | apply below_alloc | apply pw_below_drewN | apply below_drew1 | refine below_set ?_ GE656.out) | exact HB.out))); rintro e w26 ⟨rfl, hb⟩; have n0_ := Aside0.mk (blk_below (g := gb656) (o := .cells #[.string a0_0, .slice A0_1 l0_1.length c0_1, .slice A0_2 l0_2.length c0_2, .slice A0_3 l0_3.length c0_3, .slice A0_4 l0_4.length c0_4] 65 (0, 0)) (by (with_reducible repeat (first | refine blk_drewN ?_ _ | refine blk_drew ?_ | refine blk_alloc ?_ _)); exact BK656.out) hb); have n1_ := Aside0.mk (below_step (by repeat (first | (with_reducible first | exact HB.out | apply below_alloc | apply pw_below_drewN | apply below_drew1 | refine below_set ?_ GE656.out) | exact HB.out)) hb); clear BK656; clear HB; have BK656 := n0_; have HB := n1_; clear n0_ n1_; (try clear hb); (try clear hb2); (try clear hk); (try clear hi); have p660 : 0 ≤ (x6_1 : Int) := of_decide_eq_true (by first | (with_reducible assumption) | assumption); have q660 : x6_1 < (l1.length : Int) := of_decide_eq_true (by first | (with_reducible assumption) | assumption); obtain ⟨ad660, e660, hx660_0, hx660_1, hx660_2, hx660_3⟩ := at_T50 HR1.out x6_1 p660 q660; obtain rfl : ad658 = ad660 := (by injection e660); replace hx660_0 := (HB.out.cell (World.block_lt_of_cell? w _ hx660_0)).trans hx660_0; replace hx660_1 := (HB.out.cell (World.block_lt_of_cell? w _ hx660_1)).trans hx660_1; replace hx660_2 := (HB.out.cell (World.block_lt_of_cell? w _ hx660_2)).trans hx660_2; replace hx660_3 := (HB.out.cell (World.block_lt_of_cell? w _ hx660_3)).trans hx660_3; replace p660 := eq_true p660; replace q660 := eq_true q660; have p662 : 0 ≤ (x6_1 : Int) := of_decide_eq_true (by first | (with_reducible assumption) | assumption); have q662 : x6_1 < (l1.length : Int) := of_decide_eq_true (by first | (with_reducible assumption) | assumption); obtain ⟨ad662, e662, hx662_0, hx662_1, hx662_2, hx662_3⟩ := at_T50 HR1.out x6_1 p662 q662; obtain rfl : ad658 = ad662 := (by injection e662); replace hx662_0 := (HB.out.cell (World.block_lt_of_cell? w _ hx662_0)).trans hx662_0; replace hx662_1 := (HB.out.cell (World.block_lt_of_cell? w _ hx662_1)).trans hx662_1; replace hx662_2 := (HB.out.cell (World.block_lt_of_cell? w _ hx662_2)).trans hx662_2; replace hx662_3 := (HB.out.cell (World.block_lt_of_cell? w _ hx662_3)).trans hx662_3; replace p662 := eq_true p662; replace q662 := eq_true q662; have hcz27_0 : w26.cell? ⟨gb656, 0, none⟩ = some (.string a0_0) := (blk_cell BK656.out 0).trans rfl; have hcz27_1 : w26.cell? ⟨gb656, 1, none⟩ = some (.slice A0_1 l0_1.length c0_1) := (blk_cell BK656.out 1).trans rfl; have hcz27_2 : w26.cell? ⟨gb656, 2, none⟩ = some (.slice A0_2 l0_2.length c0_2) := (blk_cell BK656.out 2).trans rfl; have hcz27_3 : w26.cell? ⟨gb656, 3, none⟩ = some (.slice A0_3 l0_3.length c0_3) := (blk_cell BK656.out 3).trans rfl; have hcz27_4 : w26.cell? ⟨gb656, 4, none⟩ = some (.slice A0_4 l0_4.length c0_4) := (blk_cell BK656.out 4).trans rfl; have hfz27_0 := blk_frozen BK656.out 0; have hfz27_1 := blk_frozen BK656.out 1; have hfz27_2 := blk_frozen BK656.out 2; have hfz27_3 := blk_frozen BK656.out 3; have hfz27_4 := blk_frozen BK656.out 4; have p663 : 0 ≤ (x6_1 : Int) := of_decide_eq_true (by first | (with_reducible assumption) | assumption); have q663 : x6_1 < (l0_1.length : Int) := of_decide_eq_true (by first | (with_reducible assumption) | assumption); obtain ⟨ad663, e663, hx663_0, hx663_1, hx663_2, hx663_3, hx663_4, hx663_5, hx663_6⟩ := at_T105 HR0_1.out x6_1 p663 q663; cases e663; replace hx663_0 := (HB.out.cell (World.block_lt_of_cell? w _ hx663_0)).trans hx663_0; replace hx663_1 := (HB.out.cell (World.block_lt_of_cell? w _ hx663_1)).trans hx663_1; replace hx663_2 := (HB.out.cell (World.block_lt_of_cell? w _ hx663_2)).trans hx663_2; replace hx663_3 := (HB.out.cell (World.block_lt_of_cell? w _ hx663_3)).trans hx663_3; replace hx663_4 := (HB.out.cell (World.block_lt_of_cell? w _ hx663_4)).trans hx663_4; replace hx663_5 := (HB.out.cell (World.block_lt_of_cell? w _ hx663_5)).trans hx663_5; replace hx663_6 := (HB.out.cell (World.block_lt_of_cell? w _ hx663_6)).trans hx663_6; replace p663 := eq_true p663; replace q663 := eq_true q663)))
           go_ret
           exact ⟨by first | rfl | (simp [errW_none, errW_some] <;> rfl) | (simp [*, errW_none, errW_some] <;> rfl), by repeat (first | (with_reducible first | exact HB.out | apply below_alloc | apply pw_below_drewN | apply below_drew1 | refine below_set ?_ GE656.out) | exact HB.out)⟩
         ·rw [if_neg c22] at H
          exact absurd H (by simp)
       ·rw [if_neg c13] at H
        have c13b0 : (t659 == 0) = false := beq_eq_false_iff_ne.mpr c13
        have c13b1 : (t659 != 0) = true := bne_iff_ne.mpr c13
        obtain rfl := Option.some.inj H
        have p658 : 0 ≤ (x6_1 : Int) := of_decide_eq_true (by first | (with_reducible assumption) | assumption)
        have q658 : x6_1 < (l1.length : Int) := of_decide_eq_true (by first | (with_reducible assumption) | assumption)
        obtain ⟨ad658, e658, hx658_0, hx658_1, hx658_2, hx658_3⟩ := at_T50 HR1.out x6_1 p658 q658
        cases e658
        replace hx658_0 := (HB.out.cell (World.block_lt_of_cell? w _ hx658_0)).trans hx658_0
        replace hx658_1 := (HB.out.cell (World.block_lt_of_cell? w _ hx658_1)).trans hx658_1
        replace hx658_2 := (HB.out.cell (World.block_lt_of_cell? w _ hx658_2)).trans hx658_2
        replace hx658_3 := (HB.out.cell (World.block_lt_of_cell? w _ hx658_3)).trans hx658_3
        replace p658 := eq_true p658
        replace q658 := eq_true q658
        go_wp2_with (first | (go_at_call 69; (with_reducible refine (vellumref01_Check.calls k1 ((rd_T50 l1 x6_1).f0) ((rd_T50 l1 x6_1).f1) ((rd_T50 l1 x6_1).f2) ((rd_T50 l1 x6_1).f3) t659 _ ?side1 A12.out).mono ?_); (case side1 => exact Glob.below HG.out (by repeat (first | (with_reducible first | exact HB.out | apply below_alloc | apply pw_below_drewN | apply below_drew1 | refine below_set ?_ GE656.out) | exact HB.out))); rintro e w28 ⟨rfl, hb⟩; have n0_ := Aside0.mk (blk_below (g := gb656) (o := .cells #[.string a0_0, .slice A0_1 l0_1.length c0_1, .slice A0_2 l0_2.length c0_2, .slice A0_3 l0_3.length c0_3, .slice A0_4 l0_4.length c0_4] 65 (0, 0)) (by (with_reducible repeat (first | refine blk_drewN ?_ _ | refine blk_drew ?_ | refine blk_alloc ?_ _)); exact BK656.out) hb); have n1_ := Aside0.mk (below_step (by repeat (first | (with_reducible first | exact HB.out | apply below_alloc | apply pw_below_drewN | apply below_drew1 | refine below_set ?_ GE656.out) | exact HB.out)) hb); clear BK656; clear HB; have BK656 := n0_; have HB := n1_; clear n0_ n1_; (try clear hb); (try clear hb2); (try clear hk); (try clear hi)))
        repeat (go_quiet (first | (go_at_call 69; (with_reducible refine (vellumref01_Check.calls k1 ((rd_T50 l1 x6_1).f0) ((rd_T50 l1 x6_1).f1) ((rd_T50 l1 x6_1).f2) ((rd_T50 l1 x6_1).f3) t659 _ ?side1 A12.out).mono ?_); (case side1 => exact Glob.below HG.out (by repeat (first | (with_reducible first | exact HB.out | apply below_alloc | apply pw_below_drewN | apply below_drew1 | refine below_set ?_ GE656.out) | exact HB.out))); rintro e w28 ⟨rfl, hb⟩; have n0_ := Aside0.mk (blk_below (g := gb656) (o := .cells #[.string a0_0, .slice A0_1 l0_1.length c0_1, .slice A0_2 l0_2.length c0_2, .slice A0_3 l0_3.length c0_3, .slice A0_4 l0_4.length c0_4] 65 (0, 0)) (by (with_reducible repeat (first | refine blk_drewN ?_ _ | refine blk_drew ?_ | refine blk_alloc ?_ _)); exact BK656.out) hb); have n1_ := Aside0.mk (below_step (by repeat (first | (with_reducible first | exact HB.out | apply below_alloc | apply pw_below_drewN | apply below_drew1 | refine below_set ?_ GE656.out) | exact HB.out)) hb); clear BK656; clear HB; have BK656 := n0_; have HB := n1_; clear n0_ n1_; (try clear hb); (try clear hb2); (try clear hk); (try clear hi))); try go_wp2_with (first | (go_at_call 69; (with_reducible refine (vellumref01_Check.calls k1 ((rd_T50 l1 x6_1).f0) ((rd_T50 l1 x6_1).f1) ((rd_T50 l1 x6_1).f2) ((rd_T50 l1 x6_1).f3) t659 _ ?side1 A12.out).mono ?_); (case side1 => exact Glob.below HG.out (by repeat (first | (with_reducible first | exact HB.out | apply below_alloc | apply pw_below_drewN | apply below_drew1 | refine below_set ?_ GE656.out) | exact HB.out))); rintro e w28 ⟨rfl, hb⟩; have n0_ := Aside0.mk (blk_below (g := gb656) (o := .cells #[.string a0_0, .slice A0_1 l0_1.length c0_1, .slice A0_2 l0_2.length c0_2, .slice A0_3 l0_3.length c0_3, .slice A0_4 l0_4.length c0_4] 65 (0, 0)) (by (with_reducible repeat (first | refine blk_drewN ?_ _ | refine blk_drew ?_ | refine blk_alloc ?_ _)); exact BK656.out) hb); have n1_ := Aside0.mk (below_step (by repeat (first | (with_reducible first | exact HB.out | apply below_alloc | apply pw_below_drewN | apply below_drew1 | refine below_set ?_ GE656.out) | exact HB.out)) hb); clear BK656; clear HB; have BK656 := n0_; have HB := n1_; clear n0_ n1_; (try clear hb); (try clear hb2); (try clear hk); (try clear hi))))
        go_ret
        exact ⟨by first | rfl | (simp [errW_none, errW_some] <;> rfl) | (simp [*, errW_none, errW_some] <;> rfl), by repeat (first | (with_reducible first | exact HB.out | apply below_alloc | apply pw_below_drewN | apply below_drew1 | refine below_set ?_ GE656.out) | exact HB.out)⟩
      ·rw [if_neg c11] at H
       exact absurd H (by simp)
     ·rw [if_neg c10] at H
      have c10b0 : decide (x6_1 < (l1.length : Int)) = false := decide_eq_false c10
      clear c10
      obtain rfl := Option.some.inj H
      go_wp2
      repeat (go_quiet (fail); try go_wp2)
      go_ret
      exact ⟨by first | rfl | (simp [errW_none, errW_some] <;> rfl) | (simp [*, errW_none, errW_some] <;> rfl), by repeat (first | (with_reducible first | exact HB.out | apply below_alloc | apply pw_below_drewN | apply below_drew1 | refine below_set ?_ GE656.out) | exact HB.out)⟩
  ·rw [if_neg c5] at H
   have c5b0 : ((l1.length : Int) == (l0_1.length : Int)) = false := beq_eq_false_iff_ne.mpr c5
   have c5b1 : ((l1.length : Int) != (l0_1.length : Int)) = true := bne_iff_ne.mpr c5
   have c5b2 : (l1.length == l0_1.length) = false := by first | simpa using c5 | (simp at c5 ⊢; omega)
   obtain rfl := Option.some.inj H
   go_enter Tryd.func85, Tryd.ntmps85
   go_wp2_with (first | ((with_reducible refine gate_dst (N := 2) rfl ?_); refine box_event ?hg (N := 2) ?hd (cs := #[.string a0_0, .slice A0_1 l0_1.length c0_1, .slice A0_2 l0_2.length c0_2, .slice A0_3 l0_3.length c0_3, .slice A0_4 l0_4.length c0_4]) (t := 65) ?hr ?_; (case hd => rfl); (case hg => rfl); (case hr => first | (go_simp; done) | (go_simp; rfl)); intro gb656 hg w29 hbox hb; have n0_ := Aside0.mk (below_step (by repeat (first | (with_reducible first | exact HB.out | apply below_alloc | apply pw_below_drewN | apply below_drew1) | exact HB.out)) hb); have n1_ := Aside0.mk (hbox); have n2_ := Aside0.mk ((by rw [hg]; exact (below_size (by repeat (first | (with_reducible first | exact HB.out | apply below_alloc | apply pw_below_drewN | apply below_drew1) | exact HB.out))) : w.heap.size ≤ gb656)); have n3_ := n2_; clear HB; have HB := n0_; have BK656 := n1_; have GW656 := n2_; have GE656 := n3_; clear n0_ n1_ n2_ n3_; clear hb hbox hg; have hcz30_0 : w29.cell? ⟨gb656, 0, none⟩ = some (.string a0_0) := (blk_cell BK656.out 0).trans rfl; have hcz30_1 : w29.cell? ⟨gb656, 1, none⟩ = some (.slice A0_1 l0_1.length c0_1) := (blk_cell BK656.out 1).trans rfl; have hcz30_2 : w29.cell? ⟨gb656, 2, none⟩ = some (.slice A0_2 l0_2.length c0_2) := (blk_cell BK656.out 2).trans rfl; have hcz30_3 : w29.cell? ⟨gb656, 3, none⟩ = some (.slice A0_3 l0_3.length c0_3) := (blk_cell BK656.out 3).trans rfl; have hcz30_4 : w29.cell? ⟨gb656, 4, none⟩ = some (.slice A0_4 l0_4.length c0_4) := (blk_cell BK656.out 4).trans rfl; have hfz30_0 := blk_frozen BK656.out 0; have hfz30_1 := blk_frozen BK656.out 1; have hfz30_2 := blk_frozen BK656.out 2; have hfz30_3 := blk_frozen BK656.out 3; have hfz30_4 := blk_frozen BK656.out 4) | (go_at_call 93; (with_reducible refine (vellumref03_Check.calls k a0_0 _ _ l0_1 _ _ l0_2 _ _ l0_3 _ _ l0_4 t657 _ ?side1 ?side2 ?side3 ?side4 ?side5 ?side6 ?side7 ?side8 ?side9 A3.out).mono ?_); (case side1 => repeat (first | exact (Kd.C_below HR0_1.out HB.out) | (with_reducible refine Kd.C_alloc ?_ _) | (with_reducible refine Kd.C_drewN ?_ _) | (with_reducible refine Kd.C_drew ?_))); (case side2 => exact HC0_1.out); (case side3 => repeat (first | exact (Kd.C_below HR0_2.out HB.out) | (with_reducible refine Kd.C_alloc ?_ _) | (with_reducible refine Kd.C_drewN ?_ _) | (with_reducible refine Kd.C_drew ?_))); (case side4 => exact HC0_2.out); (case side5 => repeat (first | exact (Kd.C_below HR0_3.out HB.out) | (with_reducible refine Kd.C_alloc ?_ _) | (with_reducible refine Kd.C_drewN ?_ _) | (with_reducible refine Kd.C_drew ?_))); (case side6 => exact HC0_3.out); (case side7 => repeat (first | exact (Kd.C_below HR0_4.out HB.out) | (with_reducible refine Kd.C_alloc ?_ _) | (with_reducible refine Kd.C_drewN ?_ _) | (with_reducible refine Kd.C_drew ?_))); (case side8 => exact HC0_4.out); (case side9 => exact Glob.below HG.out (by repeat (first | (with_reducible first | exact HB.out | apply below_alloc | apply pw_below_drewN | apply below_drew1 | refine below_set ?_ GE656.out) | exact HB.out))); rintro e w31 ⟨rfl, hb⟩; have n0_ := Aside0.mk (blk_below (g := gb656) (o := .cells #[.string a0_0, .slice A0_1 l0_1.length c0_1, .slice A0_2 l0_2.length c0_2, .slice A0_3 l0_3.length c0_3, .slice A0_4 l0_4.length c0_4] 65 (0, 0)) (by (with_reducible repeat (first | refine blk_drewN ?_ _ | refine blk_drew ?_ | refine blk_alloc ?_ _)); exact BK656.out) hb); have n1_ := Aside0.mk (below_step (by repeat (first | (with_reducible first | exact HB.out | apply below_alloc | apply pw_below_drewN | apply below_drew1 | refine below_set ?_ GE656.out) | exact HB.out)) hb); clear BK656; clear HB; have BK656 := n0_; have HB := n1_; clear n0_ n1_; (try clear hb); (try clear hb2); (try clear hk); (try clear hi); have hcz32_0 : w31.cell? ⟨gb656, 0, none⟩ = some (.string a0_0) := (blk_cell BK656.out 0).trans rfl; have hcz32_1 : w31.cell? ⟨gb656, 1, none⟩ = some (.slice A0_1 l0_1.length c0_1) := (blk_cell BK656.out 1).trans rfl; have hcz32_2 : w31.cell? ⟨gb656, 2, none⟩ = some (.slice A0_2 l0_2.length c0_2) := (blk_cell BK656.out 2).trans rfl; have hcz32_3 : w31.cell? ⟨gb656, 3, none⟩ = some (.slice A0_3 l0_3.length c0_3) := (blk_cell BK656.out 3).trans rfl; have hcz32_4 : w31.cell? ⟨gb656, 4, none⟩ = some (.slice A0_4 l0_4.length c0_4) := (blk_cell BK656.out 4).trans rfl; have hfz32_0 := blk_frozen BK656.out 0; have hfz32_1 := blk_frozen BK656.out 1; have hfz32_2 := blk_frozen BK656.out 2; have hfz32_3 := blk_frozen BK656.out 3; have hfz32_4 := blk_frozen BK656.out 4))
   repeat (go_quiet (first | ((with_reducible refine gate_dst (N := 2) rfl ?_); refine box_event ?hg (N := 2) ?hd (cs := #[.string a0_0, .slice A0_1 l0_1.length c0_1, .slice A0_2 l0_2.length c0_2, .slice A0_3 l0_3.length c0_3, .slice A0_4 l0_4.length c0_4]) (t := 65) ?hr ?_; (case hd => rfl); (case hg => rfl); (case hr => first | (go_simp; done) | (go_simp; rfl)); intro gb656 hg w29 hbox hb; have n0_ := Aside0.mk (below_step (by repeat (first | (with_reducible first | exact HB.out | apply below_alloc | apply pw_below_drewN | apply below_drew1) | exact HB.out)) hb); have n1_ := Aside0.mk (hbox); have n2_ := Aside0.mk ((by rw [hg]; exact (below_size (by repeat (first | (with_reducible first | exact HB.out | apply below_alloc | apply pw_below_drewN | apply below_drew1) | exact HB.out))) : w.heap.size ≤ gb656)); have n3_ := n2_; clear HB; have HB := n0_; have BK656 := n1_; have GW656 := n2_; have GE656 := n3_; clear n0_ n1_ n2_ n3_; clear hb hbox hg; have hcz30_0 : w29.cell? ⟨gb656, 0, none⟩ = some (.string a0_0) := (blk_cell BK656.out 0).trans rfl; have hcz30_1 : w29.cell? ⟨gb656, 1, none⟩ = some (.slice A0_1 l0_1.length c0_1) := (blk_cell BK656.out 1).trans rfl; have hcz30_2 : w29.cell? ⟨gb656, 2, none⟩ = some (.slice A0_2 l0_2.length c0_2) := (blk_cell BK656.out 2).trans rfl; have hcz30_3 : w29.cell? ⟨gb656, 3, none⟩ = some (.slice A0_3 l0_3.length c0_3) := (blk_cell BK656.out 3).trans rfl; have hcz30_4 : w29.cell? ⟨gb656, 4, none⟩ = some (.slice A0_4 l0_4.length c0_4) := (blk_cell BK656.out 4).trans rfl; have hfz30_0 := blk_frozen BK656.out 0; have hfz30_1 := blk_frozen BK656.out 1; have hfz30_2 := blk_frozen BK656.out 2; have hfz30_3 := blk_frozen BK656.out 3; have hfz30_4 := blk_frozen BK656.out 4) | (go_at_call 93; (with_reducible refine (vellumref03_Check.calls k a0_0 _ _ l0_1 _ _ l0_2 _ _ l0_3 _ _ l0_4 t657 _ ?side1 ?side2 ?side3 ?side4 ?side5 ?side6 ?side7 ?side8 ?side9 A3.out).mono ?_); (case side1 => repeat (first | exact (Kd.C_below HR0_1.out HB.out) | (with_reducible refine Kd.C_alloc ?_ _) | (with_reducible refine Kd.C_drewN ?_ _) | (with_reducible refine Kd.C_drew ?_))); (case side2 => exact HC0_1.out); (case side3 => repeat (first | exact (Kd.C_below HR0_2.out HB.out) | (with_reducible refine Kd.C_alloc ?_ _) | (with_reducible refine Kd.C_drewN ?_ _) | (with_reducible refine Kd.C_drew ?_))); (case side4 => exact HC0_2.out); (case side5 => repeat (first | exact (Kd.C_below HR0_3.out HB.out) | (with_reducible refine Kd.C_alloc ?_ _) | (with_reducible refine Kd.C_drewN ?_ _) | (with_reducible refine Kd.C_drew ?_))); (case side6 => exact HC0_3.out); (case side7 => repeat (first | exact (Kd.C_below HR0_4.out HB.out) | (with_reducible refine Kd.C_alloc ?_ _) | (with_reducible refine Kd.C_drewN ?_ _) | (with_reducible refine Kd.C_drew ?_))); (case side8 => exact HC0_4.out); (case side9 => exact Glob.below HG.out (by repeat (first | (with_reducible first | exact HB.out | apply below_alloc | apply pw_below_drewN | apply below_drew1 | refine below_set ?_ GE656.out) | exact HB.out))); rintro e w31 ⟨rfl, hb⟩; have n0_ := Aside0.mk (blk_below (g := gb656) (o := .cells #[.string a0_0, .slice A0_1 l0_1.length c0_1, .slice A0_2 l0_2.length c0_2, .slice A0_3 l0_3.length c0_3, .slice A0_4 l0_4.length c0_4] 65 (0, 0)) (by (with_reducible repeat (first | refine blk_drewN ?_ _ | refine blk_drew ?_ | refine blk_alloc ?_ _)); exact BK656.out) hb); have n1_ := Aside0.mk (below_step (by repeat (first | (with_reducible first | exact HB.out | apply below_alloc | apply pw_below_drewN | apply below_drew1 | refine below_set ?_ GE656.out) | exact HB.out)) hb); clear BK656; clear HB; have BK656 := n0_; have HB := n1_; clear n0_ n1_; (try clear hb); (try clear hb2); (try clear hk); (try clear hi); have hcz32_0 : w31.cell? ⟨gb656, 0, none⟩ = some (.string a0_0) := (blk_cell BK656.out 0).trans rfl; have hcz32_1 : w31.cell? ⟨gb656, 1, none⟩ = some (.slice A0_1 l0_1.length c0_1) := (blk_cell BK656.out 1).trans rfl; have hcz32_2 : w31.cell? ⟨gb656, 2, none⟩ = some (.slice A0_2 l0_2.length c0_2) := (blk_cell BK656.out 2).trans rfl; have hcz32_3 : w31.cell? ⟨gb656, 3, none⟩ = some (.slice A0_3 l0_3.length c0_3) := (blk_cell BK656.out 3).trans rfl; have hcz32_4 : w31.cell? ⟨gb656, 4, none⟩ = some (.slice A0_4 l0_4.length c0_4) := (blk_cell BK656.out 4).trans rfl; have hfz32_0 := blk_frozen BK656.out 0; have hfz32_1 := blk_frozen BK656.out 1; have hfz32_2 := blk_frozen BK656.out 2; have hfz32_3 := blk_frozen BK656.out 3; have hfz32_4 := blk_frozen BK656.out 4)); try go_wp2_with (first | ((with_reducible refine gate_dst (N := 2) rfl ?_); refine box_event ?hg (N := 2) ?hd (cs := #[.string a0_0, .slice A0_1 l0_1.length c0_1, .slice A0_2 l0_2.length c0_2, .slice A0_3 l0_3.length c0_3, .slice A0_4 l0_4.length c0_4]) (t := 65) ?hr ?_; (case hd => rfl); (case hg => rfl); (case hr => first | (go_simp; done) | (go_simp; rfl)); intro gb656 hg w29 hbox hb; have n0_ := Aside0.mk (below_step (by repeat (first | (with_reducible first | exact HB.out | apply below_alloc | apply pw_below_drewN | apply below_drew1) | exact HB.out)) hb); have n1_ := Aside0.mk (hbox); have n2_ := Aside0.mk ((by rw [hg]; exact (below_size (by repeat (first | (with_reducible first | exact HB.out | apply below_alloc | apply pw_below_drewN | apply below_drew1) | exact HB.out))) : w.heap.size ≤ gb656)); have n3_ := n2_; clear HB; have HB := n0_; have BK656 := n1_; have GW656 := n2_; have GE656 := n3_; clear n0_ n1_ n2_ n3_; clear hb hbox hg; have hcz30_0 : w29.cell? ⟨gb656, 0, none⟩ = some (.string a0_0) := (blk_cell BK656.out 0).trans rfl; have hcz30_1 : w29.cell? ⟨gb656, 1, none⟩ = some (.slice A0_1 l0_1.length c0_1) := (blk_cell BK656.out 1).trans rfl; have hcz30_2 : w29.cell? ⟨gb656, 2, none⟩ = some (.slice A0_2 l0_2.length c0_2) := (blk_cell BK656.out 2).trans rfl; have hcz30_3 : w29.cell? ⟨gb656, 3, none⟩ = some (.slice A0_3 l0_3.length c0_3) := (blk_cell BK656.out 3).trans rfl; have hcz30_4 : w29.cell? ⟨gb656, 4, none⟩ = some (.slice A0_4 l0_4.length c0_4) := (blk_cell BK656.out 4).trans rfl; have hfz30_0 := blk_frozen BK656.out 0; have hfz30_1 := blk_frozen BK656.out 1; have hfz30_2 := blk_frozen BK656.out 2; have hfz30_3 := blk_frozen BK656.out 3; have hfz30_4 := blk_frozen BK656.out 4) | (go_at_call 93; (with_reducible refine (vellumref03_Check.calls k a0_0 _ _ l0_1 _ _ l0_2 _ _ l0_3 _ _ l0_4 t657 _ ?side1 ?side2 ?side3 ?side4 ?side5 ?side6 ?side7 ?side8 ?side9 A3.out).mono ?_); (case side1 => repeat (first | exact (Kd.C_below HR0_1.out HB.out) | (with_reducible refine Kd.C_alloc ?_ _) | (with_reducible refine Kd.C_drewN ?_ _) | (with_reducible refine Kd.C_drew ?_))); (case side2 => exact HC0_1.out); (case side3 => repeat (first | exact (Kd.C_below HR0_2.out HB.out) | (with_reducible refine Kd.C_alloc ?_ _) | (with_reducible refine Kd.C_drewN ?_ _) | (with_reducible refine Kd.C_drew ?_))); (case side4 => exact HC0_2.out); (case side5 => repeat (first | exact (Kd.C_below HR0_3.out HB.out) | (with_reducible refine Kd.C_alloc ?_ _) | (with_reducible refine Kd.C_drewN ?_ _) | (with_reducible refine Kd.C_drew ?_))); (case side6 => exact HC0_3.out); (case side7 => repeat (first | exact (Kd.C_below HR0_4.out HB.out) | (with_reducible refine Kd.C_alloc ?_ _) | (with_reducible refine Kd.C_drewN ?_ _) | (with_reducible refine Kd.C_drew ?_))); (case side8 => exact HC0_4.out); (case side9 => exact Glob.below HG.out (by repeat (first | (with_reducible first | exact HB.out | apply below_alloc | apply pw_below_drewN | apply below_drew1 | refine below_set ?_ GE656.out) | exact HB.out))); rintro e w31 ⟨rfl, hb⟩; have n0_ := Aside0.mk (blk_below (g := gb656) (o := .cells #[.string a0_0, .slice A0_1 l0_1.length c0_1, .slice A0_2 l0_2.length c0_2, .slice A0_3 l0_3.length c0_3, .slice A0_4 l0_4.length c0_4] 65 (0, 0)) (by (with_reducible repeat (first | refine blk_drewN ?_ _ | refine blk_drew ?_ | refine blk_alloc ?_ _)); exact BK656.out) hb); have n1_ := Aside0.mk (below_step (by repeat (first | (with_reducible first | exact HB.out | apply below_alloc | apply pw_below_drewN | apply below_drew1 | refine below_set ?_ GE656.out) | exact HB.out)) hb); clear BK656; clear HB; have BK656 := n0_; have HB := n1_; clear n0_ n1_; (try clear hb); (try clear hb2); (try clear hk); (try clear hi); have hcz32_0 : w31.cell? ⟨gb656, 0, none⟩ = some (.string a0_0) := (blk_cell BK656.out 0).trans rfl; have hcz32_1 : w31.cell? ⟨gb656, 1, none⟩ = some (.slice A0_1 l0_1.length c0_1) := (blk_cell BK656.out 1).trans rfl; have hcz32_2 : w31.cell? ⟨gb656, 2, none⟩ = some (.slice A0_2 l0_2.length c0_2) := (blk_cell BK656.out 2).trans rfl; have hcz32_3 : w31.cell? ⟨gb656, 3, none⟩ = some (.slice A0_3 l0_3.length c0_3) := (blk_cell BK656.out 3).trans rfl; have hcz32_4 : w31.cell? ⟨gb656, 4, none⟩ = some (.slice A0_4 l0_4.length c0_4) := (blk_cell BK656.out 4).trans rfl; have hfz32_0 := blk_frozen BK656.out 0; have hfz32_1 := blk_frozen BK656.out 1; have hfz32_2 := blk_frozen BK656.out 2; have hfz32_3 := blk_frozen BK656.out 3; have hfz32_4 := blk_frozen BK656.out 4)))
   go_ret
   exact ⟨by first | rfl | (simp [errW_none, errW_some] <;> rfl) | (simp [*, errW_none, errW_some] <;> rfl), by repeat (first | (with_reducible first | exact HB.out | apply below_alloc | apply pw_below_drewN | apply below_drew1 | refine below_set ?_ GE656.out) | exact HB.out)⟩
 ·rw [if_neg c4] at H
  have c4b0 : (t657 == 0) = false := beq_eq_false_iff_ne.mpr c4
  have c4b1 : (t657 != 0) = true := bne_iff_ne.mpr c4
  obtain rfl := Option.some.inj H
  go_enter Tryd.func85, Tryd.ntmps85
  go_wp2_with (first | ((with_reducible refine gate_dst (N := 2) rfl ?_); refine box_event ?hg (N := 2) ?hd (cs := #[.string a0_0, .slice A0_1 l0_1.length c0_1, .slice A0_2 l0_2.length c0_2, .slice A0_3 l0_3.length c0_3, .slice A0_4 l0_4.length c0_4]) (t := 65) ?hr ?_; (case hd => rfl); (case hg => rfl); (case hr => first | (go_simp; done) | (go_simp; rfl)); intro gb656 hg w33 hbox hb; have n0_ := Aside0.mk (below_step (by repeat (first | (with_reducible first | exact HB.out | apply below_alloc | apply pw_below_drewN | apply below_drew1) | exact HB.out)) hb); have n1_ := Aside0.mk (hbox); have n2_ := Aside0.mk ((by rw [hg]; exact (below_size (by repeat (first | (with_reducible first | exact HB.out | apply below_alloc | apply pw_below_drewN | apply below_drew1) | exact HB.out))) : w.heap.size ≤ gb656)); have n3_ := n2_; clear HB; have HB := n0_; have BK656 := n1_; have GW656 := n2_; have GE656 := n3_; clear n0_ n1_ n2_ n3_; clear hb hbox hg; have hcz34_0 : w33.cell? ⟨gb656, 0, none⟩ = some (.string a0_0) := (blk_cell BK656.out 0).trans rfl; have hcz34_1 : w33.cell? ⟨gb656, 1, none⟩ = some (.slice A0_1 l0_1.length c0_1) := (blk_cell BK656.out 1).trans rfl; have hcz34_2 : w33.cell? ⟨gb656, 2, none⟩ = some (.slice A0_2 l0_2.length c0_2) := (blk_cell BK656.out 2).trans rfl; have hcz34_3 : w33.cell? ⟨gb656, 3, none⟩ = some (.slice A0_3 l0_3.length c0_3) := (blk_cell BK656.out 3).trans rfl; have hcz34_4 : w33.cell? ⟨gb656, 4, none⟩ = some (.slice A0_4 l0_4.length c0_4) := (blk_cell BK656.out 4).trans rfl; have hfz34_0 := blk_frozen BK656.out 0; have hfz34_1 := blk_frozen BK656.out 1; have hfz34_2 := blk_frozen BK656.out 2; have hfz34_3 := blk_frozen BK656.out 3; have hfz34_4 := blk_frozen BK656.out 4) | (go_at_call 93; (with_reducible refine (vellumref03_Check.calls k a0_0 _ _ l0_1 _ _ l0_2 _ _ l0_3 _ _ l0_4 t657 _ ?side1 ?side2 ?side3 ?side4 ?side5 ?side6 ?side7 ?side8 ?side9 A3.out).mono ?_); (case side1 => repeat (first | exact (Kd.C_below HR0_1.out HB.out) | (with_reducible refine Kd.C_alloc ?_ _) | (with_reducible refine Kd.C_drewN ?_ _) | (with_reducible refine Kd.C_drew ?_))); (case side2 => exact HC0_1.out); (case side3 => repeat (first | exact (Kd.C_below HR0_2.out HB.out) | (with_reducible refine Kd.C_alloc ?_ _) | (with_reducible refine Kd.C_drewN ?_ _) | (with_reducible refine Kd.C_drew ?_))); (case side4 => exact HC0_2.out); (case side5 => repeat (first | exact (Kd.C_below HR0_3.out HB.out) | (with_reducible refine Kd.C_alloc ?_ _) | (with_reducible refine Kd.C_drewN ?_ _) | (with_reducible refine Kd.C_drew ?_))); (case side6 => exact HC0_3.out); (case side7 => repeat (first | exact (Kd.C_below HR0_4.out HB.out) | (with_reducible refine Kd.C_alloc ?_ _) | (with_reducible refine Kd.C_drewN ?_ _) | (with_reducible refine Kd.C_drew ?_))); (case side8 => exact HC0_4.out); (case side9 => exact Glob.below HG.out (by repeat (first | (with_reducible first | exact HB.out | apply below_alloc | apply pw_below_drewN | apply below_drew1 | refine below_set ?_ GE656.out) | exact HB.out))); rintro e w35 ⟨rfl, hb⟩; have n0_ := Aside0.mk (blk_below (g := gb656) (o := .cells #[.string a0_0, .slice A0_1 l0_1.length c0_1, .slice A0_2 l0_2.length c0_2, .slice A0_3 l0_3.length c0_3, .slice A0_4 l0_4.length c0_4] 65 (0, 0)) (by (with_reducible repeat (first | refine blk_drewN ?_ _ | refine blk_drew ?_ | refine blk_alloc ?_ _)); exact BK656.out) hb); have n1_ := Aside0.mk (below_step (by repeat (first | (with_reducible first | exact HB.out | apply below_alloc | apply pw_below_drewN | apply below_drew1 | refine below_set ?_ GE656.out) | exact HB.out)) hb); clear BK656; clear HB; have BK656 := n0_; have HB := n1_; clear n0_ n1_; (try clear hb); (try clear hb2); (try clear hk); (try clear hi)))
  repeat (go_quiet (first | ((with_reducible refine gate_dst (N := 2) rfl ?_); refine box_event ?hg (N := 2) ?hd (cs := #[.string a0_0, .slice A0_1 l0_1.length c0_1, .slice A0_2 l0_2.length c0_2, .slice A0_3 l0_3.length c0_3, .slice A0_4 l0_4.length c0_4]) (t := 65) ?hr ?_; (case hd => rfl); (case hg => rfl); (case hr => first | (go_simp; done) | (go_simp; rfl)); intro gb656 hg w33 hbox hb; have n0_ := Aside0.mk (below_step (by repeat (first | (with_reducible first | exact HB.out | apply below_alloc | apply pw_below_drewN | apply below_drew1) | exact HB.out)) hb); have n1_ := Aside0.mk (hbox); have n2_ := Aside0.mk ((by rw [hg]; exact (below_size (by repeat (first | (with_reducible first | exact HB.out | apply below_alloc | apply pw_below_drewN | apply below_drew1) | exact HB.out))) : w.heap.size ≤ gb656)); have n3_ := n2_; clear HB; have HB := n0_; have BK656 := n1_; have GW656 := n2_; have GE656 := n3_; clear n0_ n1_ n2_ n3_; clear hb hbox hg; have hcz34_0 : w33.cell? ⟨gb656, 0, none⟩ = some (.string a0_0) := (blk_cell BK656.out 0).trans rfl; have hcz34_1 : w33.cell? ⟨gb656, 1, none⟩ = some (.slice A0_1 l0_1.length c0_1) := (blk_cell BK656.out 1).trans rfl; have hcz34_2 : w33.cell? ⟨gb656, 2, none⟩ = some (.slice A0_2 l0_2.length c0_2) := (blk_cell BK656.out 2).trans rfl; have hcz34_3 : w33.cell? ⟨gb656, 3, none⟩ = some (.slice A0_3 l0_3.length c0_3) := (blk_cell BK656.out 3).trans rfl; have hcz34_4 : w33.cell? ⟨gb656, 4, none⟩ = some (.slice A0_4 l0_4.length c0_4) := (blk_cell BK656.out 4).trans rfl; have hfz34_0 := blk_frozen BK656.out 0; have hfz34_1 := blk_frozen BK656.out 1; have hfz34_2 := blk_frozen BK656.out 2; have hfz34_3 := blk_frozen BK656.out 3; have hfz34_4 := blk_frozen BK656.out 4) | (go_at_call 93; (with_reducible refine (vellumref03_Check.calls k a0_0 _ _ l0_1 _ _ l0_2 _ _ l0_3 _ _ l0_4 t657 _ ?side1 ?side2 ?side3 ?side4 ?side5 ?side6 ?side7 ?side8 ?side9 A3.out).mono ?_); (case side1 => repeat (first | exact (Kd.C_below HR0_1.out HB.out) | (with_reducible refine Kd.C_alloc ?_ _) | (with_reducible refine Kd.C_drewN ?_ _) | (with_reducible refine Kd.C_drew ?_))); (case side2 => exact HC0_1.out); (case side3 => repeat (first | exact (Kd.C_below HR0_2.out HB.out) | (with_reducible refine Kd.C_alloc ?_ _) | (with_reducible refine Kd.C_drewN ?_ _) | (with_reducible refine Kd.C_drew ?_))); (case side4 => exact HC0_2.out); (case side5 => repeat (first | exact (Kd.C_below HR0_3.out HB.out) | (with_reducible refine Kd.C_alloc ?_ _) | (with_reducible refine Kd.C_drewN ?_ _) | (with_reducible refine Kd.C_drew ?_))); (case side6 => exact HC0_3.out); (case side7 => repeat (first | exact (Kd.C_below HR0_4.out HB.out) | (with_reducible refine Kd.C_alloc ?_ _) | (with_reducible refine Kd.C_drewN ?_ _) | (with_reducible refine Kd.C_drew ?_))); (case side8 => exact HC0_4.out); (case side9 => exact Glob.below HG.out (by repeat (first | (with_reducible first | exact HB.out | apply below_alloc | apply pw_below_drewN | apply below_drew1 | refine below_set ?_ GE656.out) | exact HB.out))); rintro e w35 ⟨rfl, hb⟩; have n0_ := Aside0.mk (blk_below (g := gb656) (o := .cells #[.string a0_0, .slice A0_1 l0_1.length c0_1, .slice A0_2 l0_2.length c0_2, .slice A0_3 l0_3.length c0_3, .slice A0_4 l0_4.length c0_4] 65 (0, 0)) (by (with_reducible repeat (first | refine blk_drewN ?_ _ | refine blk_drew ?_ | refine blk_alloc ?_ _)); exact BK656.out) hb); have n1_ := Aside0.mk (below_step (by repeat (first | (with_reducible first | exact HB.out | apply below_alloc | apply pw_below_drewN | apply below_drew1 | refine below_set ?_ GE656.out) | exact HB.out)) hb); clear BK656; clear HB; have BK656 := n0_; have HB := n1_; clear n0_ n1_; (try clear hb); (try clear hb2); (try clear hk); (try clear hi))); try go_wp2_with (first | ((with_reducible refine gate_dst (N := 2) rfl ?_); refine box_event ?hg (N := 2) ?hd (cs := #[.string a0_0, .slice A0_1 l0_1.length c0_1, .slice A0_2 l0_2.length c0_2, .slice A0_3 l0_3.length c0_3, .slice A0_4 l0_4.length c0_4]) (t := 65) ?hr ?_; (case hd => rfl); (case hg => rfl); (case hr => first | (go_simp; done) | (go_simp; rfl)); intro gb656 hg w33 hbox hb; have n0_ := Aside0.mk (below_step (by repeat (first | (with_reducible first | exact HB.out | apply below_alloc | apply pw_below_drewN | apply below_drew1) | exact HB.out)) hb); have n1_ := Aside0.mk (hbox); have n2_ := Aside0.mk ((by rw [hg]; exact (below_size (by repeat (first | (with_reducible first | exact HB.out | apply below_alloc | apply pw_below_drewN | apply below_drew1) | exact HB.out))) : w.heap.size ≤ gb656)); have n3_ := n2_; clear HB; have HB := n0_; have BK656 := n1_; have GW656 := n2_; have GE656 := n3_; clear n0_ n1_ n2_ n3_; clear hb hbox hg; have hcz34_0 : w33.cell? ⟨gb656, 0, none⟩ = some (.string a0_0) := (blk_cell BK656.out 0).trans rfl; have hcz34_1 : w33.cell? ⟨gb656, 1, none⟩ = some (.slice A0_1 l0_1.length c0_1) := (blk_cell BK656.out 1).trans rfl; have hcz34_2 : w33.cell? ⟨gb656, 2, none⟩ = some (.slice A0_2 l0_2.length c0_2) := (blk_cell BK656.out 2).trans rfl; have hcz34_3 : w33.cell? ⟨gb656, 3, none⟩ = some (.slice A0_3 l0_3.length c0_3) := (blk_cell BK656.out 3).trans rfl; have hcz34_4 : w33.cell? ⟨gb656, 4, none⟩ = some (.slice A0_4 l0_4.length c0_4) := (blk_cell BK656.out 4).trans rfl; have hfz34_0 := blk_frozen BK656.out 0; have hfz34_1 := blk_frozen BK656.out 1; have hfz34_2 := blk_frozen BK656.out 2; have hfz34_3 := blk_frozen BK656.out 3; have hfz34_4 := blk_frozen BK656.out 4) | (go_at_call 93; (with_reducible refine (vellumref03_Check.calls k a0_0 _ _ l0_1 _ _ l0_2 _ _ l0_3 _ _ l0_4 t657 _ ?side1 ?side2 ?side3 ?side4 ?side5 ?side6 ?side7 ?side8 ?side9 A3.out).mono ?_); (case side1 => repeat (first | exact (Kd.C_below HR0_1.out HB.out) | (with_reducible refine Kd.C_alloc ?_ _) | (with_reducible refine Kd.C_drewN ?_ _) | (with_reducible refine Kd.C_drew ?_))); (case side2 => exact HC0_1.out); (case side3 => repeat (first | exact (Kd.C_below HR0_2.out HB.out) | (with_reducible refine Kd.C_alloc ?_ _) | (with_reducible refine Kd.C_drewN ?_ _) | (with_reducible refine Kd.C_drew ?_))); (case side4 => exact HC0_2.out); (case side5 => repeat (first | exact (Kd.C_below HR0_3.out HB.out) | (with_reducible refine Kd.C_alloc ?_ _) | (with_reducible refine Kd.C_drewN ?_ _) | (with_reducible refine Kd.C_drew ?_))); (case side6 => exact HC0_3.out); (case side7 => repeat (first | exact (Kd.C_below HR0_4.out HB.out) | (with_reducible refine Kd.C_alloc ?_ _) | (with_reducible refine Kd.C_drewN ?_ _) | (with_reducible refine Kd.C_drew ?_))); (case side8 => exact HC0_4.out); (case side9 => exact Glob.below HG.out (by repeat (first | (with_reducible first | exact HB.out | apply below_alloc | apply pw_below_drewN | apply below_drew1 | refine below_set ?_ GE656.out) | exact HB.out))); rintro e w35 ⟨rfl, hb⟩; have n0_ := Aside0.mk (blk_below (g := gb656) (o := .cells #[.string a0_0, .slice A0_1 l0_1.length c0_1, .slice A0_2 l0_2.length c0_2, .slice A0_3 l0_3.length c0_3, .slice A0_4 l0_4.length c0_4] 65 (0, 0)) (by (with_reducible repeat (first | refine blk_drewN ?_ _ | refine blk_drew ?_ | refine blk_alloc ?_ _)); exact BK656.out) hb); have n1_ := Aside0.mk (below_step (by repeat (first | (with_reducible first | exact HB.out | apply below_alloc | apply pw_below_drewN | apply below_drew1 | refine below_set ?_ GE656.out) | exact HB.out)) hb); clear BK656; clear HB; have BK656 := n0_; have HB := n1_; clear n0_ n1_; (try clear hb); (try clear hb2); (try clear hk); (try clear hi))))
  go_ret
  exact ⟨by first | rfl | (simp [errW_none, errW_some] <;> rfl) | (simp [*, errW_none, errW_some] <;> rfl), by repeat (first | (with_reducible first | exact HB.out | apply below_alloc | apply pw_below_drewN | apply below_drew1 | refine below_set ?_ GE656.out) | exact HB.out)⟩
def vellumref04_pair.f (a0_0 : Int) (a0_1 : Int) (a0_2 : Nat) (a0_3 : ByteArray) : Option (Int) := if a0_0 = 0 then (some 0) else (if a0_0 = 1 then (if a0_1 = 1 then (some 2) else (some 1)) else (some 1))
set_option maxHeartbeats 8000000 in
set_option maxRecDepth 100000 in
theorem vellumref04_pair.calls (a0_0 : Int) (a0_1 : Int) (a0_2 : Nat) (a0_3 : ByteArray) (r : Int) (w : World) (h : vellumref04_pair.f a0_0 a0_1 a0_2 a0_3 = some r) :
  Calls Tryd.prog 121 #[.agg #[.int .i64 a0_0, .int .i64 a0_1, .float .f64 a0_2, .string a0_3]] w fun e w' => e = .returned (.int .u8 r) ∧ Below w.heap.size w w' := by
 have hu50 := Tryd.underlying50
 have HB := Aside0.mk (Below.refl w.heap.size w)
 have H : (if a0_0 = 0 then (some 0) else (if a0_0 = 1 then (if a0_1 = 1 then (some 2) else (some 1)) else (some 1))) = some r := h
 clear h
 by_cases c2 : a0_0 = 0
 ·rw [if_pos c2] at H
  have c2b0 : (a0_0 == 0) = true := beq_iff_eq.mpr c2
  have c2b1 : (a0_0 != 0) = false := bne_eq_false_iff_eq.mpr c2
  clear c2
  obtain rfl := Option.some.inj H
  go_enter Tryd.func121, Tryd.ntmps121
  go_wp2_with (first | ((with_reducible refine gate_dst (N := 1) rfl ?_); refine box_event ?hg (N := 1) ?hd (cs := #[.int .i64 a0_0, .int .i64 a0_1, .float .f64 a0_2, .string a0_3]) (t := 50) ?hr ?_; (case hd => rfl); (case hg => rfl); (case hr => first | (go_simp; done) | (go_simp; rfl)); intro gb664 hg w3 hbox hb; have n0_ := Aside0.mk (below_step (by repeat (first | (with_reducible first | exact HB.out | apply below_alloc | apply pw_below_drewN | apply below_drew1) | exact HB.out)) hb); have n1_ := Aside0.mk (hbox); have n2_ := Aside0.mk ((by rw [hg]; exact (below_size (by repeat (first | (with_reducible first | exact HB.out | apply below_alloc | apply pw_below_drewN | apply below_drew1) | exact HB.out))) : w.heap.size ≤ gb664)); have n3_ := n2_; clear HB; have HB := n0_; have BK664 := n1_; have GW664 := n2_; have GE664 := n3_; clear n0_ n1_ n2_ n3_; clear hb hbox hg; have hcz4_0 : w3.cell? ⟨gb664, 0, none⟩ = some (.int .i64 a0_0) := (blk_cell BK664.out 0).trans rfl; have hcz4_1 : w3.cell? ⟨gb664, 1, none⟩ = some (.int .i64 a0_1) := (blk_cell BK664.out 1).trans rfl; have hcz4_2 : w3.cell? ⟨gb664, 2, none⟩ = some (.float .f64 a0_2) := (blk_cell BK664.out 2).trans rfl; have hcz4_3 : w3.cell? ⟨gb664, 3, none⟩ = some (.string a0_3) := (blk_cell BK664.out 3).trans rfl; have hfz4_0 := blk_frozen BK664.out 0; have hfz4_1 := blk_frozen BK664.out 1; have hfz4_2 := blk_frozen BK664.out 2; have hfz4_3 := blk_frozen BK664.out 3))
  go_ret
  exact ⟨by first | rfl | (simp [errW_none, errW_some] <;> rfl) | (simp [*, errW_none, errW_some] <;> rfl), by repeat (first | (with_reducible first | exact HB.out | apply below_alloc | apply pw_below_drewN | apply below_drew1 | refine below_set ?_ GE664.out) | exact HB.out)⟩
 ·rw [if_neg c2] at H
  have c2b0 : (a0_0 == 0) = false := beq_eq_false_iff_ne.mpr c2
  have c2b1 : (a0_0 != 0) = true := bne_iff_ne.mpr c2
  by_cases c5 : a0_0 = 1
  ·rw [if_pos c5] at H
   have c5b0 : (a0_0 == 1) = true := beq_iff_eq.mpr c5
   have c5b1 : (a0_0 != 1) = false := bne_eq_false_iff_eq.mpr c5
   clear c5
   by_cases c6 : a0_1 = 1
   ·rw [if_pos c6] at H
    have c6b0 : (a0_1 == 1) = true := beq_iff_eq.mpr c6
    have c6b1 : (a0_1 != 1) = false := bne_eq_false_iff_eq.mpr c6
    clear c6
    obtain rfl := Option.some.inj H
    go_enter Tryd.func121, Tryd.ntmps121
    go_wp2_with (first | ((with_reducible refine gate_dst (N := 1) rfl ?_); refine box_event ?hg (N := 1) ?hd (cs := #[.int .i64 a0_0, .int .i64 a0_1, .float .f64 a0_2, .string a0_3]) (t := 50) ?hr ?_; (case hd => rfl); (case hg => rfl); (case hr => first | (go_simp; done) | (go_simp; rfl)); intro gb664 hg w7 hbox hb; have n0_ := Aside0.mk (below_step (by repeat (first | (with_reducible first | exact HB.out | apply below_alloc | apply pw_below_drewN | apply below_drew1) | exact HB.out)) hb); have n1_ := Aside0.mk (hbox); have n2_ := Aside0.mk ((by rw [hg]; exact (below_size (by repeat (first | (with_reducible first | exact HB.out | apply below_alloc | apply pw_below_drewN | apply below_drew1) | exact HB.out))) : w.heap.size ≤ gb664)); have n3_ := n2_; clear HB; have HB := n0_; have BK664 := n1_; have GW664 := n2_; have GE664 := n3_; clear n0_ n1_ n2_ n3_; clear hb hbox hg; have hcz8_0 : w7.cell? ⟨gb664, 0, none⟩ = some (.int .i64 a0_0) := (blk_cell BK664.out 0).trans rfl; have hcz8_1 : w7.cell? ⟨gb664, 1, none⟩ = some (.int .i64 a0_1) := (blk_cell BK664.out 1).trans rfl; have hcz8_2 : w7.cell? ⟨gb664, 2, none⟩ = some (.float .f64 a0_2) := (blk_cell BK664.out 2).trans rfl; have hcz8_3 : w7.cell? ⟨gb664, 3, none⟩ = some (.string a0_3) := (blk_cell BK664.out 3).trans rfl; have hfz8_0 := blk_frozen BK664.out 0; have hfz8_1 := blk_frozen BK664.out 1; have hfz8_2 := blk_frozen BK664.out 2; have hfz8_3 := blk_frozen BK664.out 3))
    go_ret
    exact ⟨by first | rfl | (simp [errW_none, errW_some] <;> rfl) | (simp [*, errW_none, errW_some] <;> rfl), by repeat (first | (with_reducible first | exact HB.out | apply below_alloc | apply pw_below_drewN | apply below_drew1 | refine below_set ?_ GE664.out) | exact HB.out)⟩
   ·rw [if_neg c6] at H
    have c6b0 : (a0_1 == 1) = false := beq_eq_false_iff_ne.mpr c6
    have c6b1 : (a0_1 != 1) = true := bne_iff_ne.mpr c6
    obtain rfl := Option.some.inj H
    go_enter Tryd.func121, Tryd.ntmps121
    go_wp2_with (first | ((with_reducible refine gate_dst (N := 1) rfl ?_); refine box_event ?hg (N := 1) ?hd (cs := #[.int .i64 a0_0, .int .i64 a0_1, .float .f64 a0_2, .string a0_3]) (t := 50) ?hr ?_; (case hd => rfl); (case hg => rfl); (case hr => first | (go_simp; done) | (go_simp; rfl)); intro gb664 hg w9 hbox hb; have n0_ := Aside0.mk (below_step (by repeat (first | (with_reducible first | exact HB.out | apply below_alloc | apply pw_below_drewN | apply below_drew1) | exact HB.out)) hb); have n1_ := Aside0.mk (hbox); have n2_ := Aside0.mk ((by rw [hg]; exact (below_size (by repeat (first | (with_reducible first | exact HB.out | apply below_alloc | apply pw_below_drewN | apply below_drew1) | exact HB.out))) : w.heap.size ≤ gb664)); have n3_ := n2_; clear HB; have HB := n0_; have BK664 := n1_; have GW664 := n2_; have GE664 := n3_; clear n0_ n1_ n2_ n3_; clear hb hbox hg; have hcz10_0 : w9.cell? ⟨gb664, 0, none⟩ = some (.int .i64 a0_0) := (blk_cell BK664.out 0).trans rfl; have hcz10_1 : w9.cell? ⟨gb664, 1, none⟩ = some (.int .i64 a0_1) := (blk_cell BK664.out 1).trans rfl; have hcz10_2 : w9.cell? ⟨gb664, 2, none⟩ = some (.float .f64 a0_2) := (blk_cell BK664.out 2).trans rfl; have hcz10_3 : w9.cell? ⟨gb664, 3, none⟩ = some (.string a0_3) := (blk_cell BK664.out 3).trans rfl; have hfz10_0 := blk_frozen BK664.out 0; have hfz10_1 := blk_frozen BK664.out 1; have hfz10_2 := blk_frozen BK664.out 2; have hfz10_3 := blk_frozen BK664.out 3))
    go_ret
    exact ⟨by first | rfl | (simp [errW_none, errW_some] <;> rfl) | (simp [*, errW_none, errW_some] <;> rfl), by repeat (first | (with_reducible first | exact HB.out | apply below_alloc | apply pw_below_drewN | apply below_drew1 | refine below_set ?_ GE664.out) | exact HB.out)⟩
  ·rw [if_neg c5] at H
   have c5b0 : (a0_0 == 1) = false := beq_eq_false_iff_ne.mpr c5
   have c5b1 : (a0_0 != 1) = true := bne_iff_ne.mpr c5
   obtain rfl := Option.some.inj H
   go_enter Tryd.func121, Tryd.ntmps121
   go_wp2_with (first | ((with_reducible refine gate_dst (N := 1) rfl ?_); refine box_event ?hg (N := 1) ?hd (cs := #[.int .i64 a0_0, .int .i64 a0_1, .float .f64 a0_2, .string a0_3]) (t := 50) ?hr ?_; (case hd => rfl); (case hg => rfl); (case hr => first | (go_simp; done) | (go_simp; rfl)); intro gb664 hg w11 hbox hb; have n0_ := Aside0.mk (below_step (by repeat (first | (with_reducible first | exact HB.out | apply below_alloc | apply pw_below_drewN | apply below_drew1) | exact HB.out)) hb); have n1_ := Aside0.mk (hbox); have n2_ := Aside0.mk ((by rw [hg]; exact (below_size (by repeat (first | (with_reducible first | exact HB.out | apply below_alloc | apply pw_below_drewN | apply below_drew1) | exact HB.out))) : w.heap.size ≤ gb664)); have n3_ := n2_; clear HB; have HB := n0_; have BK664 := n1_; have GW664 := n2_; have GE664 := n3_; clear n0_ n1_ n2_ n3_; clear hb hbox hg; have hcz12_0 : w11.cell? ⟨gb664, 0, none⟩ = some (.int .i64 a0_0) := (blk_cell BK664.out 0).trans rfl; have hcz12_1 : w11.cell? ⟨gb664, 1, none⟩ = some (.int .i64 a0_1) := (blk_cell BK664.out 1).trans rfl; have hcz12_2 : w11.cell? ⟨gb664, 2, none⟩ = some (.float .f64 a0_2) := (blk_cell BK664.out 2).trans rfl; have hcz12_3 : w11.cell? ⟨gb664, 3, none⟩ = some (.string a0_3) := (blk_cell BK664.out 3).trans rfl; have hfz12_0 := blk_frozen BK664.out 0; have hfz12_1 := blk_frozen BK664.out 1; have hfz12_2 := blk_frozen BK664.out 2; have hfz12_3 := blk_frozen BK664.out 3))
   go_ret
   exact ⟨by first | rfl | (simp [errW_none, errW_some] <;> rfl) | (simp [*, errW_none, errW_some] <;> rfl), by repeat (first | (with_reducible first | exact HB.out | apply below_alloc | apply pw_below_drewN | apply below_drew1 | refine below_set ?_ GE664.out) | exact HB.out)⟩
def vellumref04_varint.l0 : Nat → Int → List Int → Option (List Int)
 | 0, _, _ => none
 | k + 1, x0, x3 => if x0 > 127 then (if x3.length < 140737488355328 then (vellumref04_varint.l0 k (x0 / 128) (x3 ++ [(Go.bits .or .u64 (Go.bits .and .u64 x0 127) 128) % 256])) else (none)) else (if x3.length < 140737488355328 then (some (x3 ++ [(x0) % 256])) else (none))
def vellumref04_varint.f (k : Nat) (a0 : Int) : Option (List Int) := vellumref04_varint.l0 k a0 ([] : List Int)
set_option maxHeartbeats 8000000 in
set_option maxRecDepth 100000 in
theorem vellumref04_varint.calls (k : Nat) (a0 : Int) (r : List Int) (w : World) (h : vellumref04_varint.f k a0 = some r) :
  Calls Tryd.prog 90 #[.int .u64 a0] w fun e w' => ∃ v0_ : Value, e = .returned (v0_) ∧ Kd.R (Kd.int .u8) 5 w' w.heap.size (fun _ => True) v0_ r ∧ Below w.heap.size w w' := by
 have HB := Aside0.mk (Below.refl w.heap.size w)
 have H : (vellumref04_varint.l0 k a0 ([] : List Int)) = some r := h
 clear h
 have H' := Aside0.mk H
 clear H
 go_enter Tryd.func90, Tryd.ntmps90
 go_wp2
 go_loopg [0, 3] k (fun kq v0 v3 w' => ∃ (x0_1 : Int) (x3_1 : List Int), v0 = .int .u64 x0_1 ∧ Aside0 (vellumref04_varint.l0 kq x0_1 x3_1 = some r) ∧ Aside0 (kq ≤ k) ∧ Aside0 (Kd.R (Kd.int .u8) 5 w' w.heap.size (fun _ => True) v3 x3_1) ∧ Aside0 (Below w.heap.size w w'))
 case atStart => exact ⟨(a0), (([] : List Int)), (by first | rfl | (simp; done) | (simp [*]; done) | (simp [bool_ne_nil]; done) | (simp; exact bool_ne_nil _)), H', ⟨Nat.le_refl _⟩, ⟨by first | exact Kd.R_nil _ _ _ _ _ | exact Kd.N_nil _ _ _ _ _ | exact Kd.V_nil _ _ _ _ _ | exact Kd.Q_nil _ _ _ _ _ | exact Kd.S_nil _ _ _ _ _⟩, ⟨by repeat (first | (with_reducible first | exact HB.out | apply below_alloc | apply pw_below_drewN | apply below_drew1) | exact HB.out)⟩⟩
 case round =>
  clear H'
  obtain ⟨x0_1, x3_1, rfl, HA, HK1, HO_3, HB⟩ := hrel
  cases gk with
  | zero => exact absurd HA.out (by simp [vellumref04_varint.l0])
  | succ k1 =>
   have H := HA.out
   clear HA
   simp only [vellumref04_varint.l0] at H
   by_cases c2 : x0_1 > 127
   ·rw [if_pos c2] at H
    have c2b0 : decide (127 < x0_1) = true := decide_eq_true c2
    clear c2
    by_cases c3 : x3_1.length < 140737488355328
    ·rw [if_pos c3] at H
     have LMc3 := Aside0.mk c3
     clear c3
     obtain ⟨y665, hy665⟩ : ∃ y_ : List Int, y_ = (x3_1 ++ [(Go.bits .or .u64 (Go.bits .and .u64 x0_1 127) 128) % 256]) := ⟨_, rfl⟩
     replace H : (vellumref04_varint.l0 k1 (x0_1 / 128) y665) = some r := by first | (rw [hy665]; with_reducible exact H) | (have H2_ := (Option.bind_some _ _).symm.trans H; rw [hy665]; with_reducible exact H2_) | (have H2_ := (Option.bind_some _ _).symm.trans H; with_reducible exact H2_) | with_reducible exact H | (rw [hy665]; exact H) | exact H
     have Ny665 := Aside0.mk hy665
     clear hy665
     have H' := Aside0.mk H
     clear H
     go_wp2_with (first | ((with_reducible refine gate_builtin (b := .append) (xs := #[.tmp 6, .tmp 11]) rfl ?_); at_builtin; refine Kd.R_append (Kd.int .u8) (w0 := w) w.heap.size rfl (.tmp 6) (.tmp 11) 80 5 (.int .u8 0) 1 rfl Tryd.underlying80 info5 rfl (by decide) (by omega) u3 x3_1 ((Go.bits .or .u64 (Go.bits .and .u64 x0_1 127) 128) % 256) [.int .u8 ((Go.bits .or .u64 (Go.bits .and .u64 x0_1 127) 128) % 256)] (fun _ => True) (fun _ => False) rfl rfl ?aP (fun _ hk => hk.elim) ?aF ?aO ?aB ?aS ?aL ?_; (case aP => exact rfl); (case aB => exact (by repeat (first | (with_reducible first | exact HB.out | apply below_alloc | apply pw_below_drewN | apply below_drew1) | exact HB.out))); (case aF => exact (fun _ _ => trivial)); (case aO => exact (by (with_reducible repeat (first | apply Kd.R_alloc | apply Kd.R_drewN | apply Kd.R_drew)); exact HO_3.out)); (case aS => exact (below_size (by repeat (first | (with_reducible first | exact HB.out | apply below_alloc | apply pw_below_drewN | apply below_drew1) | exact HB.out)))); (case aL => have := LMc3.out; omega); intro v666 w4 ho hb hg hat; rw [← Ny665.out] at ho; have n0_ := Aside0.mk (hb); have n1_ := Aside0.mk (ho); clear HB; clear HO_3; have HB := n0_; have HO667 := n1_; clear n0_ n1_; clear ho hb hg hat))
     go_roundg k1
     case measure => have := HK1.out; omega
     case rel => exact ⟨(x0_1 / 128), (y665), (by first | rfl | (simp; done) | (simp [*]; done) | (simp [bool_ne_nil]; done) | (simp; exact bool_ne_nil _)), H', ⟨by have := HK1.out; omega⟩, ⟨by (with_reducible repeat (first | apply Kd.R_alloc | apply Kd.R_drewN | apply Kd.R_drew)); exact HO667.out⟩, ⟨by repeat (first | (with_reducible first | exact HB.out | apply below_alloc | apply pw_below_drewN | apply below_drew1) | exact HB.out)⟩⟩
    ·rw [if_neg c3] at H
     exact absurd H (by simp)
   ·rw [if_neg c2] at H
    have c2b0 : decide (127 < x0_1) = false := decide_eq_false c2
    clear c2
    by_cases c5 : x3_1.length < 140737488355328
    ·rw [if_pos c5] at H
     have LMc5 := Aside0.mk c5
     clear c5
     obtain ⟨y668, hy668⟩ : ∃ y_ : List Int, y_ = (x3_1 ++ [(x0_1) % 256]) := ⟨_, rfl⟩
     replace H : (some y668) = some r := by first | (rw [hy668]; with_reducible exact H) | (have H2_ := (Option.bind_some _ _).symm.trans H; rw [hy668]; with_reducible exact H2_) | (have H2_ := (Option.bind_some _ _).symm.trans H; with_reducible exact H2_) | with_reducible exact H | (rw [hy668]; exact H) | exact H
     have Ny668 := Aside0.mk hy668
     clear hy668
     obtain rfl := Option.some.inj H
     go_wp2_with (first | ((with_reducible refine gate_builtin (b := .append) (xs := #[.tmp 15, .tmp 18]) rfl ?_); at_builtin; refine Kd.R_append (Kd.int .u8) (w0 := w) w.heap.size rfl (.tmp 15) (.tmp 18) 80 5 (.int .u8 0) 1 rfl Tryd.underlying80 info5 rfl (by decide) (by omega) u3 x3_1 ((x0_1) % 256) [.int .u8 ((x0_1) % 256)] (fun _ => True) (fun _ => False) rfl rfl ?aP (fun _ hk => hk.elim) ?aF ?aO ?aB ?aS ?aL ?_; (case aP => exact rfl); (case aB => exact (by repeat (first | (with_reducible first | exact HB.out | apply below_alloc | apply pw_below_drewN | apply below_drew1) | exact HB.out))); (case aF => exact (fun _ _ => trivial)); (case aO => exact (by (with_reducible repeat (first | apply Kd.R_alloc | apply Kd.R_drewN | apply Kd.R_drew)); exact HO_3.out)); (case aS => exact (below_size (by repeat (first | (with_reducible first | exact HB.out | apply below_alloc | apply pw_below_drewN | apply below_drew1) | exact HB.out)))); (case aL => have := LMc5.out; omega); intro v669 w6 ho hb hg hat; rw [← Ny668.out] at ho; have n0_ := Aside0.mk (hb); have n1_ := Aside0.mk (ho); clear HB; clear HO_3; have HB := n0_; have HO670 := n1_; clear n0_ n1_; clear ho hb hg hat))
     go_ret
     exact ⟨_, by first | rfl | (simp [errW_none, errW_some] <;> rfl) | (simp [*, errW_none, errW_some] <;> rfl), by (with_reducible repeat (first | apply Kd.R_alloc | apply Kd.R_drewN | apply Kd.R_drew)); exact HO670.out, by repeat (first | (with_reducible first | exact HB.out | apply below_alloc | apply pw_below_drewN | apply below_drew1) | exact HB.out)⟩
    ·rw [if_neg c5] at H
     exact absurd H (by simp)
def vellumref04_zigzag.f (a0 : Int) : Option (Int) := if a0 ≥ 0 then (some (IntKind.u64.wrap ((IntKind.u64.wrap (a0)) * 2))) else (some (IntKind.u64.wrap ((IntKind.u64.wrap ((IntKind.u64.wrap (wrap64 (-(wrap64 (a0 + 1))))) * 2)) + 1)))
set_option maxHeartbeats 8000000 in
set_option maxRecDepth 100000 in
theorem vellumref04_zigzag.calls (a0 : Int) (r : Int) (w : World) (h : vellumref04_zigzag.f a0 = some r) :
  Calls Tryd.prog 160 #[.int .i64 a0] w fun e w' => e = .returned (.int .u64 r) ∧ Drawn0 w w' := by
 have H : (if a0 ≥ 0 then (some (IntKind.u64.wrap ((IntKind.u64.wrap (a0)) * 2))) else (some (IntKind.u64.wrap ((IntKind.u64.wrap ((IntKind.u64.wrap (wrap64 (-(wrap64 (a0 + 1))))) * 2)) + 1)))) = some r := h
 clear h
 by_cases c2 : a0 ≥ 0
 ·rw [if_pos c2] at H
  have c2b0 : decide (0 ≤ a0) = true := decide_eq_true c2
  clear c2
  obtain rfl := Option.some.inj H
  go_enter Tryd.func160, Tryd.ntmps160
  go_wp2
  go_ret
  exact ⟨by first | rfl | (simp; done) | (simp [*]; done) | (simp [bool_ne_nil]; done) | (simp; exact bool_ne_nil _), by repeat (first | exact Drawn0.refl _ | apply Drawn0.step)⟩
 ·rw [if_neg c2] at H
  have c2b0 : decide (0 ≤ a0) = false := decide_eq_false c2
  clear c2
  obtain rfl := Option.some.inj H
  go_enter Tryd.func160, Tryd.ntmps160
  go_wp2
  go_ret
  exact ⟨by first | rfl | (simp; done) | (simp [*]; done) | (simp [bool_ne_nil]; done) | (simp; exact bool_ne_nil _), by repeat (first | exact Drawn0.refl _ | apply Drawn0.step)⟩
end Go.Proofs.YtpiifdbicibelaaDoor.PA
end
section
namespace Go.Proofs.YtpiifdbicibelaaDoor.Pure
open Go.RowKit Go.Proofs Go.Proofs.YtpiifdbicibelaaDoorW.PrintWords Go.Proofs.YtpiifdbicibelaaDoorW.PrintLast Go.Proofs.YtpiifdbicibelaaDoorW.PrintMore Go.Proofs.YtpiifdbicibelaaDoor.PA Go.Proofs.YtpiifdbicibelaaDoor.OpenK
set_option linter.unusedVariables false
set_option linter.unusedSimpArgs false
theorem rd105_eq {xs : List S105} {i : Nat} (h : i < xs.length) : rd_T105 xs (i : Int) = xs[i] := by
  have := rd105_get h
  rw [List.getElem?_eq_getElem h] at this
  exact (Option.some.inj this).symm
theorem rd115_eq {xs : List S115} {i : Nat} (h : i < xs.length) : rd_T115 xs (i : Int) = xs[i] := by
  have := rd115_get h
  rw [List.getElem?_eq_getElem h] at this
  exact (Option.some.inj this).symm
theorem rd139_eq {xs : List S139} {i : Nat} (h : i < xs.length) : rd_T139 xs (i : Int) = xs[i] := by
  have := rd139_get h
  rw [List.getElem?_eq_getElem h] at this
  exact (Option.some.inj this).symm
open Classical in
theorem cols_all (n : Nat) (l : List Int) : decide (∀ j, 0 ≤ j → ∀ h : j < l.length, (0 ≤ l[j] ∧ l[j] < n) ∧ l[j] ∉ l.take j) = (l.all (fun x => decide (0 ≤ x) && decide (x < n)) && decide l.Nodup) := by
  rw [Bool.eq_iff_iff, decide_eq_true_eq, Bool.and_eq_true, List.all_eq_true, decide_eq_true_eq]
  constructor
  · intro g
    refine ⟨fun x hx => ?_, ?_⟩
    · obtain ⟨j, hj, rfl⟩ := List.getElem_of_mem hx
      have := (g j (Nat.zero_le _) hj).1
      simp; omega
    · rw [List.nodup_iff_pairwise_ne, List.pairwise_iff_getElem]
      intro i j hi hj hij e
      exact (g j (Nat.zero_le _) hj).2 (by rw [← e]; exact List.mem_take_iff_getElem.2 ⟨i, by omega, rfl⟩)
  · rintro ⟨g1, g2⟩ j _ hj
    have h1 := g1 l[j] (List.getElem_mem hj)
    simp at h1
    refine ⟨h1, fun hm => ?_⟩
    obtain ⟨i, hi, e⟩ := List.mem_take_iff_getElem.1 hm
    rw [List.nodup_iff_pairwise_ne, List.pairwise_iff_getElem] at g2
    exact g2 i j (by omega) hj (by omega) e
theorem some_ev (a : ByteArray) (c : List S105) (d : List Int) (e : List S115) (f : List S139) (l : List Int) (hl : l.length < 9223372036854775807) : Ev (fun k => vellumref03_some.f k a c d e f l) (colsOk c.length l) := by
  classical
  have inner : ∀ (i : Nat) (hlt : i < l.length) (b : Bool), Ev (fun k => vellumref03_some.l0 k l ((i + 1 : Nat) : Int) a c d e f) b → ∀ (m j : Nat), j + m = i →
      Ev (fun k => vellumref03_some.l1 k l (i : Int) (j : Int) a c d e f) (if l[i] ∈ (l.take i).drop j then false else b) := by
    intro i hlt b hb m
    induction m with
    | zero =>
      intro j hj
      obtain rfl : j = i := by omega
      rw [List.drop_of_length_le (by simp; omega), if_neg (by simp)]
      refine Ev.step (g := fun k => vellumref03_some.l0 k l ((j + 1 : Nat) : Int) a c d e f) (fun k => ?_) hb
      simp only [vellumref03_some.l1]
      rw [if_neg (by omega), wrap64_id (by omega) (by omega)]
      rfl
    | succ m ih =>
      intro j hj
      have hjl : j < l.length := by omega
      have hd : (l.take i).drop j = l[j] :: (l.take i).drop (j + 1) := by
        rw [List.drop_eq_getElem_cons (by simp; omega)]
        simp
      refine Ev.step (g := fun k => if l[j] = l[i] then some false else vellumref03_some.l1 k l (i : Int) ((j + 1 : Nat) : Int) a c d e f) (fun k => ?_) ?_
      · simp only [vellumref03_some.l1]
        rw [if_pos (by omega), if_pos (by omega), if_pos (by omega), if_pos (by omega), if_pos (by omega), rd_getI l j hjl, rd_getI l i hlt, wrap64_id (by omega) (by omega)]
        rfl
      · rw [hd]
        by_cases h : l[j] = l[i]
        · refine Ev.pos h ?_
          rw [if_pos (by rw [h]; simp)]
          exact Ev.pure
        · refine Ev.neg h ?_
          have := ih (j + 1) (by omega)
          have e2 : (l[i] ∈ l[j] :: (l.take i).drop (j + 1)) ↔ l[i] ∈ (l.take i).drop (j + 1) := by
            rw [List.mem_cons]; exact ⟨fun g => g.resolve_left (fun e => h e.symm), .inr⟩
          simp only [e2]; exact this
  have hloop : ∀ (m i : Nat), i + m = l.length → Ev (fun k => vellumref03_some.l0 k l (i : Int) a c d e f)
      (decide (∀ j, i ≤ j → ∀ h : j < l.length, (0 ≤ l[j] ∧ l[j] < c.length) ∧ l[j] ∉ l.take j)) := by
    intro m
    induction m with
    | zero =>
      intro i hi
      refine Ev.from_ 1 fun k => ?_
      simp only [vellumref03_some.l0]
      rw [if_neg (by omega)]
      congr 1
      exact (decide_eq_true (fun j h1 h2 => by omega)).symm
    | succ m ih =>
      intro i hi
      have hlt : i < l.length := by omega
      have hj2 : ∀ b : Bool, Ev (fun k => vellumref03_some.j2 k l (i : Int) b a c d e f) (if b = true then false else if l[i] ∈ l.take i then false else decide (∀ j, i + 1 ≤ j → ∀ h : j < l.length, (0 ≤ l[j] ∧ l[j] < c.length) ∧ l[j] ∉ l.take j)) := by
        intro b
        cases b
        · refine Ev.step (g := fun k => vellumref03_some.l1 k l (i : Int) ((0 : Nat) : Int) a c d e f) (fun k => ?_) ?_
          · simp only [vellumref03_some.j2]; rw [if_neg (by decide)]; rfl
          · have := inner i hlt _ (ih (i + 1) (by omega)) i 0 (by omega)
            simpa using this
        · refine Ev.from_ 1 fun k => ?_
          simp [vellumref03_some.j2]
      refine Ev.step (g := fun k => if l[i] < 0 then vellumref03_some.j2 k l (i : Int) true a c d e f else vellumref03_some.j2 k l (i : Int) (decide (l[i] ≥ (c.length : Int))) a c d e f) (fun k => ?_) ?_
      · simp only [vellumref03_some.l0]
        rw [if_pos (by omega), if_pos (by omega), rd_getI l i hlt]
      · by_cases h1 : l[i] < 0
        · refine Ev.pos h1 ?_
          rw [decide_eq_false (fun g => by have := (g i (Nat.le_refl _) hlt).1.1; omega)]
          simpa using hj2 true
        refine Ev.neg h1 ?_
        have hh := hj2 (decide (l[i] ≥ (c.length : Int)))
        by_cases h2 : l[i] ≥ (c.length : Int)
        · rw [decide_eq_false (p := ∀ j, i ≤ j → ∀ h : j < l.length, (0 ≤ l[j] ∧ l[j] < c.length) ∧ l[j] ∉ l.take j) (fun g => by have := (g i (Nat.le_refl _) hlt).1.2; omega)]
          rw [decide_eq_true h2] at hh ⊢
          simpa using hh
        rw [decide_eq_false h2] at hh ⊢
        by_cases h3 : l[i] ∈ l.take i
        · rw [decide_eq_false (p := ∀ j, i ≤ j → ∀ h : j < l.length, (0 ≤ l[j] ∧ l[j] < c.length) ∧ l[j] ∉ l.take j) (fun g => (g i (Nat.le_refl _) hlt).2 h3)]
          rw [if_neg (by decide), if_pos h3] at hh
          exact hh
        · rw [if_neg (by decide), if_neg h3] at hh
          have e2 : decide (∀ j, i + 1 ≤ j → ∀ h : j < l.length, (0 ≤ l[j] ∧ l[j] < c.length) ∧ l[j] ∉ l.take j) = decide (∀ j, i ≤ j → ∀ h : j < l.length, (0 ≤ l[j] ∧ l[j] < c.length) ∧ l[j] ∉ l.take j) := by
            rw [decide_eq_decide]
            constructor
            · intro g j h4 h5
              rcases Nat.lt_or_ge i j with h6 | h6
              · exact g j h6 h5
              · obtain rfl : j = i := by omega
                exact ⟨⟨by omega, by omega⟩, h3⟩
            · exact fun g j h4 h5 => g j (by omega) h5
          rw [← e2]; exact hh
  have hj : ∀ b : Bool, Ev (fun k => vellumref03_some.j0 k l b a c d e f) (!b && (l.all (fun x => decide (0 ≤ x) && decide (x < c.length)) && decide l.Nodup)) := by
    intro b
    cases b
    · refine Ev.step (g := fun k => vellumref03_some.l0 k l ((0 : Nat) : Int) a c d e f) (fun k => ?_) ?_
      · simp only [vellumref03_some.j0]; rw [if_neg (by decide)]; rfl
      · have := hloop l.length 0 (by omega)
        rw [cols_all] at this
        simpa using this
    · refine Ev.from_ 1 fun k => ?_
      simp [vellumref03_some.j0]
  simp only [vellumref03_some.f]
  unfold colsOk
  by_cases h1 : (l.length : Int) < 1
  · refine Ev.pos h1 ?_
    have : decide (1 ≤ l.length) = false := decide_eq_false (by omega)
    simpa [this] using hj true
  · refine Ev.neg h1 ?_
    have e1 : decide (1 ≤ l.length) = true := decide_eq_true (by omega)
    by_cases h2 : (l.length : Int) > 64
    · have e2 : decide (l.length ≤ 64) = false := decide_eq_false (by omega)
      rw [decide_eq_true h2]
      simpa [e2] using hj true
    · have e2 : decide (l.length ≤ 64) = true := decide_eq_true (by omega)
      rw [decide_eq_false h2]
      simpa [e1, e2] using hj false
theorem columns_ev (a : ByteArray) (c : List S105) (d : List Int) (e : List S115) (f : List S139) (hl : c.length < 9223372036854775807) (hw : ∀ x ∈ c, wfC x) : Ev (fun k => vellumref03_columns.f k a c d e f) (colErrs [] c) := by
  have inner : ∀ (i : Nat) (hlt : i < c.length) (b : Int), Ev (fun k => vellumref03_columns.l0 k ((i + 1 : Nat) : Int) a c d e f) b → ∀ (m j : Nat), j + m = i →
      Ev (fun k => vellumref03_columns.l1 k (i : Int) (j : Int) a c d e f c[i].f0 c[i].f1 c[i].f2 c[i].f3.f0 c[i].f3.f1 c[i].f3.f2 c[i].f3.f3)
        (if ((c.take i).drop j).any (fun x => x.f0.toList == c[i].f0.toList) = true then 31 else if colBad c[i] = true then 32 else b) := by
    intro i hlt b hb m
    have hwi := hw c[i] (List.getElem_mem hlt)
    induction m with
    | zero =>
      intro j hj
      obtain rfl : j = i := by omega
      rw [List.drop_of_length_le (by simp; omega), if_neg (by simp)]
      refine Ev.step (g := fun k => if c[j].f1 < 1 then (some 32) else (if c[j].f1 > 5 then (some 32) else ((vellumref01_Check.f k c[j].f3.f0 c[j].f3.f1 c[j].f3.f2 c[j].f3.f3).bind fun t633 => (if t633 = 0 then (if c[j].f3.f0 = c[j].f1 then (vellumref03_columns.l0 k ((j + 1 : Nat) : Int) a c d e f) else (if c[j].f3.f0 = 0 then (vellumref03_columns.l0 k ((j + 1 : Nat) : Int) a c d e f) else (some 32))) else (some 32))))) (fun k => ?_) ?_
      · simp only [vellumref03_columns.l1]
        rw [if_neg (by omega), wrap64_id (by omega) (by omega)]
        rfl
      · unfold colBad
        by_cases h1 : c[j].f1 < 1
        · refine Ev.pos h1 ?_
          rw [if_pos (by simp [h1])]; exact Ev.pure
        refine Ev.neg h1 ?_
        by_cases h2 : c[j].f1 > 5
        · refine Ev.pos h2 ?_
          rw [if_pos (by simp; omega)]; exact Ev.pure
        refine Ev.neg h2 (Ev.bind (Ev.from_ 6 fun k => check_ref k _ _ _ _ hwi.2) ?_)
        generalize chk c[j].f3.f0 c[j].f3.f1 c[j].f3.f2 c[j].f3.f3 = r
        have d1 : decide (c[j].f1 < 1) = false := decide_eq_false h1
        have d2 : decide (5 < c[j].f1) = false := decide_eq_false h2
        rw [d1, d2]
        by_cases h3 : r = 0
        · refine Ev.pos h3 ?_
          subst h3
          by_cases h4 : c[j].f3.f0 = c[j].f1
          · refine Ev.pos h4 ?_
            rw [if_neg (by simp [h4])]; exact hb
          · refine Ev.neg h4 ?_
            by_cases h5 : c[j].f3.f0 = 0
            · refine Ev.pos h5 ?_
              rw [if_neg (by simp [h5])]; exact hb
            · refine Ev.neg h5 ?_
              rw [if_pos (by simp [h4, h5])]; exact Ev.pure
        · refine Ev.neg h3 ?_
          rw [if_pos (by simp [h3])]; exact Ev.pure
    | succ m ih =>
      intro j hj
      have hjl : j < c.length := by omega
      have hd : (c.take i).drop j = c[j] :: (c.take i).drop (j + 1) := by
        rw [List.drop_eq_getElem_cons (by simp; omega)]
        simp
      refine Ev.step (g := fun k => if c[j].f0.toList = c[i].f0.toList then some 31 else vellumref03_columns.l1 k (i : Int) ((j + 1 : Nat) : Int) a c d e f c[i].f0 c[i].f1 c[i].f2 c[i].f3.f0 c[i].f3.f1 c[i].f3.f2 c[i].f3.f3) (fun k => ?_) ?_
      · simp only [vellumref03_columns.l1]
        rw [if_pos (by omega), if_pos (by omega), if_pos (by omega), rd105_eq hjl, wrap64_id (by omega) (by omega)]
        rfl
      · rw [hd]
        by_cases h : c[j].f0.toList = c[i].f0.toList
        · refine Ev.pos h ?_
          rw [if_pos (by simp [h])]
          exact Ev.pure
        · refine Ev.neg h ?_
          have := ih (j + 1) (by omega)
          have e2 : (c[j] :: (c.take i).drop (j + 1)).any (fun x => x.f0.toList == c[i].f0.toList) = ((c.take i).drop (j + 1)).any (fun x => x.f0.toList == c[i].f0.toList) := by
            rw [List.any_cons]; simp [h]
          rw [e2]; exact this
  have hloop : ∀ (m i : Nat), i + m = c.length → Ev (fun k => vellumref03_columns.l0 k (i : Int) a c d e f) (colErrs (c.take i) (c.drop i)) := by
    intro m
    induction m with
    | zero =>
      intro i hi
      rw [List.drop_of_length_le (by omega)]
      refine Ev.from_ 1 fun k => ?_
      simp only [vellumref03_columns.l0]
      rw [if_neg (by omega)]; rfl
    | succ m ih =>
      intro i hi
      have hlt : i < c.length := by omega
      have hwi := hw c[i] (List.getElem_mem hlt)
      rw [List.drop_eq_getElem_cons hlt]
      simp only [colErrs]
      refine Ev.step (g := fun k => (vellumref03_Name.f k c[i].f0).bind fun t631 => (if t631 = true then (vellumref03_columns.l1 k (i : Int) ((0 : Nat) : Int) a c d e f c[i].f0 c[i].f1 c[i].f2 c[i].f3.f0 c[i].f3.f1 c[i].f3.f2 c[i].f3.f3) else (some 30))) (fun k => ?_) (Ev.bind (name_ref _ hwi.1) ?_)
      · simp only [vellumref03_columns.l0]
        rw [if_pos (by omega), if_pos (by omega), rd105_eq hlt]
        rfl
      cases hn : nameOk c[i].f0 with
      | false => exact Ev.neg (by decide) (by rw [if_pos rfl]; exact Ev.pure)
      | true =>
        rw [if_neg (by decide)]
        refine Ev.pos rfl ?_
        have hii := ih (i + 1) (by omega)
        have ht : c.take (i + 1) = c.take i ++ [c[i]] := by rw [List.take_succ_eq_append_getElem hlt]
        rw [ht] at hii
        have := inner i hlt _ hii i 0 (by omega)
        simpa using this
  have := hloop c.length 0 (by omega)
  simpa [vellumref03_columns.f] using this
theorem indexes_ev (a : ByteArray) (c : List S105) (d : List Int) (e : List S115) (f : List S139) (hl : e.length < 9223372036854775807) (hw : ∀ x ∈ e, wfX x) : Ev (fun k => vellumref03_indexes.f k a c d e f) (idxErrs c.length [] e) := by
  have inner : ∀ (i : Nat) (hlt : i < e.length) (b : Int), Ev (fun k => vellumref03_indexes.l0 k ((i + 1 : Nat) : Int) a c d e f) b → ∀ (m j : Nat), j + m = i →
      Ev (fun k => vellumref03_indexes.l1 k (i : Int) (j : Int) a c d e f e[i].f0 e[i].f1 e[i].f2)
        (if ((e.take i).drop j).any (fun x => x.f0.toList == e[i].f0.toList) = true then 31 else if colsOk c.length e[i].f1 = false then 33 else b) := by
    intro i hlt b hb m
    have hwi := hw e[i] (List.getElem_mem hlt)
    induction m with
    | zero =>
      intro j hj
      obtain rfl : j = i := by omega
      rw [List.drop_of_length_le (by simp; omega), if_neg (by simp)]
      refine Ev.step (g := fun k => (vellumref03_some.f k a c d e f e[j].f1).bind fun t644 => (if t644 = true then (vellumref03_indexes.l0 k ((j + 1 : Nat) : Int) a c d e f) else (some 33))) (fun k => ?_) (Ev.bind (some_ev a c d e f e[j].f1 hwi.2) ?_)
      · simp only [vellumref03_indexes.l1]
        rw [if_neg (by omega), wrap64_id (by omega) (by omega)]
        rfl
      · cases hc : colsOk c.length e[j].f1 with
        | false => exact Ev.neg (by decide) (by rw [if_pos rfl]; exact Ev.pure)
        | true => exact Ev.pos rfl (by rw [if_neg (by decide)]; exact hb)
    | succ m ih =>
      intro j hj
      have hjl : j < e.length := by omega
      have hd : (e.take i).drop j = e[j] :: (e.take i).drop (j + 1) := by
        rw [List.drop_eq_getElem_cons (by simp; omega)]
        simp
      refine Ev.step (g := fun k => if e[j].f0.toList = e[i].f0.toList then some 31 else vellumref03_indexes.l1 k (i : Int) ((j + 1 : Nat) : Int) a c d e f e[i].f0 e[i].f1 e[i].f2) (fun k => ?_) ?_
      · simp only [vellumref03_indexes.l1]
        rw [if_pos (by omega), if_pos (by omega), if_pos (by omega), rd115_eq hjl, wrap64_id (by omega) (by omega)]
        rfl
      · rw [hd]
        by_cases h : e[j].f0.toList = e[i].f0.toList
        · refine Ev.pos h ?_
          rw [if_pos (by simp [h])]
          exact Ev.pure
        · refine Ev.neg h ?_
          have := ih (j + 1) (by omega)
          have e2 : (e[j] :: (e.take i).drop (j + 1)).any (fun x => x.f0.toList == e[i].f0.toList) = ((e.take i).drop (j + 1)).any (fun x => x.f0.toList == e[i].f0.toList) := by
            rw [List.any_cons]; simp [h]
          rw [e2]; exact this
  have hloop : ∀ (m i : Nat), i + m = e.length → Ev (fun k => vellumref03_indexes.l0 k (i : Int) a c d e f) (idxErrs c.length (e.take i) (e.drop i)) := by
    intro m
    induction m with
    | zero =>
      intro i hi
      rw [List.drop_of_length_le (by omega)]
      refine Ev.from_ 1 fun k => ?_
      simp only [vellumref03_indexes.l0]
      rw [if_neg (by omega)]; rfl
    | succ m ih =>
      intro i hi
      have hlt : i < e.length := by omega
      have hwi := hw e[i] (List.getElem_mem hlt)
      rw [List.drop_eq_getElem_cons hlt]
      simp only [idxErrs]
      refine Ev.step (g := fun k => (vellumref03_Name.f k e[i].f0).bind fun t642 => (if t642 = true then (vellumref03_indexes.l1 k (i : Int) ((0 : Nat) : Int) a c d e f e[i].f0 e[i].f1 e[i].f2) else (some 30))) (fun k => ?_) (Ev.bind (name_ref _ hwi.1) ?_)
      · simp only [vellumref03_indexes.l0]
        rw [if_pos (by omega), if_pos (by omega), rd115_eq hlt]
        rfl
      cases hn : nameOk e[i].f0 with
      | false => exact Ev.neg (by decide) (by rw [if_pos rfl]; exact Ev.pure)
      | true =>
        rw [if_neg (by decide)]
        refine Ev.pos rfl ?_
        have hii := ih (i + 1) (by omega)
        have ht : e.take (i + 1) = e.take i ++ [e[i]] := by rw [List.take_succ_eq_append_getElem hlt]
        rw [ht] at hii
        have := inner i hlt _ hii i 0 (by omega)
        simpa using this
  have := hloop e.length 0 (by omega)
  simpa [vellumref03_indexes.f] using this
theorem keyloop_ev (a : ByteArray) (c : List S105) (d : List Int) (e : List S115) (f : List S139) (hd : d.length < 9223372036854775807) (hk : colsOk c.length d = true) (b : Int) (hb : Ev (fun k => (vellumref03_indexes.f k a c d e f).bind fun t651 => (if t651 = 0 then (vellumref03_Check.l1 k 0 a c d e f) else (some t651))) b) :
    Ev (fun k => vellumref03_Check.l0 k 0 a c d e f) (if d.any (fun k => (rd_T105 c k).f2) = true then 33 else b) := by
  have hloop : ∀ (m i : Nat), i + m = d.length → Ev (fun k => vellumref03_Check.l0 k (i : Int) a c d e f) (if (d.drop i).any (fun k => (rd_T105 c k).f2) = true then 33 else b) := by
    intro m
    induction m with
    | zero =>
      intro i hi
      rw [List.drop_of_length_le (by omega), if_neg (by simp)]
      refine Ev.step (g := fun k => (vellumref03_indexes.f k a c d e f).bind fun t651 => (if t651 = 0 then (vellumref03_Check.l1 k 0 a c d e f) else (some t651))) (fun k => ?_) hb
      simp only [vellumref03_Check.l0]
      rw [if_neg (by omega)]
    | succ m ih =>
      intro i hi
      have hlt : i < d.length := by omega
      have hr := colsOk_mem hk (List.getElem_mem hlt)
      rw [List.drop_eq_getElem_cons hlt]
      refine Ev.step (g := fun k => if (rd_T105 c d[i]).f2 = true then some 33 else vellumref03_Check.l0 k ((i + 1 : Nat) : Int) a c d e f) (fun k => ?_) ?_
      · simp only [vellumref03_Check.l0]
        rw [if_pos (by omega), if_pos (by omega), rd_getI d i hlt, if_pos hr.1, if_pos hr.2, wrap64_id (by omega) (by omega)]
        rfl
      · cases h : (rd_T105 c d[i]).f2 with
        | true =>
          refine Ev.pos rfl ?_
          rw [if_pos (by rw [List.any_cons, h]; rfl)]
          exact Ev.pure
        | false =>
          refine Ev.neg (by decide) ?_
          have e2 : (d[i] :: d.drop (i + 1)).any (fun k => (rd_T105 c k).f2) = (d.drop (i + 1)).any (fun k => (rd_T105 c k).f2) := by rw [List.any_cons, h]; rfl
          rw [e2]
          exact ih (i + 1) (by omega)
  have := hloop d.length 0 (by omega)
  simpa using this
theorem refs_ev (a : ByteArray) (c : List S105) (d : List Int) (e : List S115) (f : List S139) (hl : f.length < 9223372036854775807) (hw : ∀ x ∈ f, wfR x) : Ev (fun k => vellumref03_Check.l1 k 0 a c d e f) (refErrs c.length f) := by
  have hloop : ∀ (m i : Nat), i + m = f.length → Ev (fun k => vellumref03_Check.l1 k (i : Int) a c d e f) (refErrs c.length (f.drop i)) := by
    intro m
    induction m with
    | zero =>
      intro i hi
      rw [List.drop_of_length_le (by omega)]
      refine Ev.from_ 1 fun k => ?_
      simp only [vellumref03_Check.l1]
      rw [if_neg (by omega)]; rfl
    | succ m ih =>
      intro i hi
      have hlt : i < f.length := by omega
      have hwi := hw f[i] (List.getElem_mem hlt)
      rw [List.drop_eq_getElem_cons hlt]
      simp only [refErrs]
      refine Ev.step (g := fun k => (vellumref03_Name.f k f[i].f1).bind fun t653 => (if t653 = true then ((vellumref03_some.f k a c d e f f[i].f0).bind fun t655 => (if t655 = true then (vellumref03_Check.l1 k ((i + 1 : Nat) : Int) a c d e f) else (some 33))) else (some 30))) (fun k => ?_) (Ev.bind (name_ref _ hwi.1) ?_)
      · simp only [vellumref03_Check.l1]
        rw [if_pos (by omega), if_pos (by omega), rd139_eq hlt, wrap64_id (by omega) (by omega)]
        rfl
      cases hn : nameOk f[i].f1 with
      | false => exact Ev.neg (by decide) (by rw [if_pos rfl]; exact Ev.pure)
      | true =>
        rw [if_neg (by decide)]
        refine Ev.pos rfl (Ev.bind (some_ev a c d e f f[i].f0 hwi.2) ?_)
        cases hc : colsOk c.length f[i].f0 with
        | false => exact Ev.neg (by decide) (by rw [if_pos rfl]; exact Ev.pure)
        | true => exact Ev.pos rfl (by rw [if_neg (by decide)]; exact ih (i + 1) (by omega))
  have := hloop f.length 0 (by omega)
  simpa using this
theorem tcheck_ev (a : ByteArray) (c : List S105) (d : List Int) (e : List S115) (f : List S139) (hw : WfT a c d e f) (hc : c.length < 9223372036854775807) (he : e.length < 9223372036854775807) (hf : f.length < 9223372036854775807) : Ev (fun k => vellumref03_Check.f k a c d e f) (checkT a c d e f) := by
  have hj : ∀ b : Bool, Ev (fun k => vellumref03_Check.j0 k b a c d e f) (if b = true then 2 else if colErrs [] c ≠ 0 then colErrs [] c else if colsOk c.length d = false then 33 else if d.any (fun k => (rd_T105 c k).f2) = true then 33 else if idxErrs c.length [] e ≠ 0 then idxErrs c.length [] e else refErrs c.length f) := by
    intro b
    cases b with
    | true =>
      refine Ev.from_ 1 fun k => ?_
      simp [vellumref03_Check.j0]
    | false =>
      refine Ev.step (g := fun k => (vellumref03_columns.f k a c d e f).bind fun t647 => (if t647 = 0 then ((vellumref03_some.f k a c d e f d).bind fun t648 => (if t648 = true then (vellumref03_Check.l0 k 0 a c d e f) else (some 33))) else (some t647))) (fun k => ?_) (Ev.bind (columns_ev a c d e f hc hw.cols) ?_)
      · simp only [vellumref03_Check.j0]; rw [if_neg (by decide)]
      rw [if_neg (by decide)]
      by_cases h1 : colErrs [] c = 0
      · rw [if_neg (by simp [h1])]
        refine Ev.pos h1 (Ev.bind (some_ev a c d e f d hw.key) ?_)
        cases hk : colsOk c.length d with
        | false => exact Ev.neg (by decide) (by rw [if_pos rfl]; exact Ev.pure)
        | true =>
          rw [if_neg (by decide)]
          refine Ev.pos rfl (keyloop_ev a c d e f hw.key hk _ (Ev.bind (indexes_ev a c d e f he hw.idx) ?_))
          by_cases h2 : idxErrs c.length [] e = 0
          · rw [if_neg (by simp [h2])]
            exact Ev.pos h2 (refs_ev a c d e f hf hw.refs)
          · rw [if_pos h2]
            exact Ev.neg h2 Ev.pure
      · rw [if_pos h1]
        exact Ev.neg h1 Ev.pure
  simp only [vellumref03_Check.f]
  unfold checkT
  refine Ev.bind (name_ref a hw.name) ?_
  cases hn : nameOk a with
  | false => exact Ev.neg (by decide) (by rw [if_pos rfl]; exact Ev.pure)
  | true =>
    rw [if_neg (by decide)]
    refine Ev.pos rfl ?_
    by_cases h1 : (c.length : Int) < 1
    · refine Ev.pos h1 ?_
      rw [if_pos (.inl (by omega))]
      simpa using hj true
    refine Ev.neg h1 ?_
    by_cases h2 : (c.length : Int) > 64
    · refine Ev.pos h2 ?_
      rw [if_pos (.inr (.inl (by omega)))]
      simpa using hj true
    refine Ev.neg h2 ?_
    by_cases h3 : (e.length : Int) > 16
    · refine Ev.pos h3 ?_
      rw [if_pos (.inr (.inr (.inl (by omega))))]
      simpa using hj true
    refine Ev.neg h3 ?_
    by_cases h4 : (f.length : Int) > 16
    · rw [decide_eq_true h4, if_pos (.inr (.inr (.inr (by omega))))]
      simpa using hj true
    · rw [decide_eq_false h4, if_neg (by omega)]
      have := hj false
      rwa [if_neg (by decide)] at this
theorem admits_ev (a : ByteArray) (c : List S105) (d : List Int) (e : List S115) (f : List S139) (row : List S50) (hw : WfT a c d e f) (hc : c.length < 9223372036854775807) (he : e.length < 9223372036854775807) (hf : f.length < 9223372036854775807) (hrow : row.length < 9223372036854775807) (hv : ∀ v ∈ row, v.f3.size ≤ 140737488351232) :
    Ev (fun k => vellumref03_Admits.f k a c d e f row) (admT a c d e f row) := by
  have hloop : row.length = c.length → ∀ (m i : Nat), i + m = row.length → Ev (fun k => vellumref03_Admits.l0 k row (i : Int) a c d e f) (admRow (c.drop i) (row.drop i)) := by
    intro hlen m
    induction m with
    | zero =>
      intro i hi
      rw [List.drop_of_length_le (l := c) (by omega)]
      refine Ev.from_ 1 fun k => ?_
      simp only [vellumref03_Admits.l0]
      rw [if_neg (by omega)]; simp [admRow]
    | succ m ih =>
      intro i hi
      have hlt : i < row.length := by omega
      have hltc : i < c.length := by omega
      have hic : (i : Int) < (c.length : Int) := by omega
      have hx : row[i]? = some row[i] := List.getElem?_eq_getElem hlt
      have hvi := hv row[i] (List.getElem_mem hlt)
      rw [List.drop_eq_getElem_cons hlt, List.drop_eq_getElem_cons hltc]
      simp only [admRow]
      have ih' := ih (i + 1) (by omega)
      refine Ev.step (g := fun k => (vellumref01_Check.f k row[i].f0 row[i].f1 row[i].f2 row[i].f3).bind fun t659 => (if t659 = 0 then (if row[i].f0 = 0 then (if (c[i].f2 = true) then (vellumref03_Admits.l0 k row ((i + 1 : Nat) : Int) a c d e f) else (some 35)) else (if row[i].f0 = c[i].f1 then (vellumref03_Admits.l0 k row ((i + 1 : Nat) : Int) a c d e f) else (some 32))) else (some t659))) (fun k => ?_) (Ev.bind (Ev.from_ 6 fun k => check_ref k _ _ _ _ hvi) ?_)
      · simp only [vellumref03_Admits.l0]
        rw [if_pos (by omega), if_pos (by omega), rd_get row i _ hx, rd105_eq hltc, if_pos hic, if_pos hic, wrap64_id (by omega) (by omega)]
        rfl
      · generalize chk row[i].f0 row[i].f1 row[i].f2 row[i].f3 = r
        by_cases h0 : r = 0
        · subst h0
          rw [if_neg (by simp)]
          refine Ev.pos rfl ?_
          by_cases h1 : row[i].f0 = 0
          · rw [if_pos h1]
            refine Ev.pos h1 ?_
            by_cases h2 : c[i].f2 = true
            · rw [if_pos h2]; exact Ev.pos h2 ih'
            · rw [if_neg h2]; exact Ev.neg h2 Ev.pure
          · rw [if_neg h1]
            refine Ev.neg h1 ?_
            by_cases h2 : row[i].f0 = c[i].f1
            · rw [if_pos h2]; exact Ev.pos h2 ih'
            · rw [if_neg h2]; exact Ev.neg h2 Ev.pure
        · rw [if_pos h0]
          exact Ev.neg h0 Ev.pure
  simp only [vellumref03_Admits.f]
  unfold admT
  refine Ev.bind (tcheck_ev a c d e f hw hc he hf) ?_
  by_cases h0 : checkT a c d e f = 0
  · rw [if_neg (by simp [h0])]
    refine Ev.pos h0 ?_
    by_cases h1 : row.length = c.length
    · rw [if_neg (by simp [h1])]
      refine Ev.pos (by omega) ?_
      have := hloop h1 row.length 0 (by omega)
      simpa using this
    · rw [if_pos h1]
      exact Ev.neg (by omega) Ev.pure
  · rw [if_pos h0]
    exact Ev.neg h0 Ev.pure
end Go.Proofs.YtpiifdbicibelaaDoor.Pure
end
section
namespace Go.Proofs.YtpiifdbicibelaaDoor.PA
open Go.RowKit Go.Proofs.YtpiifdbicibelaaDoorW.PrintWords Go.Proofs.YtpiifdbicibelaaDoorW.PrintLast Go.Proofs.YtpiifdbicibelaaDoorW.PrintMore
attribute [local go_sem] max2_int min2_int max_two min_two max_three min_three max_four min_four   -- for this text's walks alone
set_option linter.unusedVariables false
set_option linter.unusedSimpArgs false
end Go.Proofs.YtpiifdbicibelaaDoor.PA
end
section
namespace Go.Proofs.YtpiifdbicibelaaDoor.Pure
open Go.RowKit Go.Proofs Go.Proofs.YtpiifdbicibelaaDoorW.PrintWords Go.Proofs.YtpiifdbicibelaaDoorW.PrintLast Go.Proofs.YtpiifdbicibelaaDoorW.PrintMore Go.Proofs.YtpiifdbicibelaaDoor.PA Go.Proofs.YtpiifdbicibelaaDoor.OpenK
set_option linter.unusedVariables false
def Tail (r : List Int) : Prop := ∀ x l, r = x :: l → x < 255
def Bf (u v : List Int) : Prop := ∀ r s, Tail r → u ++ r < v ++ s
theorem Bf.cons {a : Int} {u v : List Int} (h : Bf u v) : Bf (a :: u) (a :: v) := fun r s hr => List.cons_lt_cons_iff.2 (Or.inr ⟨rfl, h r s hr⟩)
theorem Bf.head {a b : Int} {u v : List Int} (h : a < b) : Bf (a :: u) (b :: v) := fun r s hr => List.cons_lt_cons_iff.2 (Or.inl h)
def Says (t : Int) (u v : List Int) : Prop := (t = -1 ∧ Bf u v) ∨ (t = 1 ∧ Bf v u) ∨ (t = 0 ∧ u = v)
theorem Says.cons {t a : Int} {u v : List Int} (h : Says t u v) : Says t (a :: u) (a :: v) := by
  rcases h with ⟨h1, h2⟩ | ⟨h1, h2⟩ | ⟨h1, h2⟩
  · exact Or.inl ⟨h1, h2.cons⟩
  · exact Or.inr (Or.inl ⟨h1, h2.cons⟩)
  · exact Or.inr (Or.inr ⟨h1, by rw [h2]⟩)
end Go.Proofs.YtpiifdbicibelaaDoor.Pure
end
section
namespace Go.Proofs.YtpiifdbicibelaaDoor.Pure
open Go.RowKit Go.Proofs Go.Proofs.YtpiifdbicibelaaDoorW.PrintWords Go.Proofs.YtpiifdbicibelaaDoorW.PrintLast Go.Proofs.YtpiifdbicibelaaDoorW.PrintMore Go.Proofs.YtpiifdbicibelaaDoor.PA Go.Proofs.YtpiifdbicibelaaDoor.OpenK
set_option linter.unusedVariables false
def Bytes (l : List Int) : Prop := ∀ x ∈ l, 0 ≤ x ∧ x ≤ 255
theorem Bytes.cons {a : Int} {l : List Int} (h : 0 ≤ a ∧ a ≤ 255) (hl : Bytes l) : Bytes (a :: l) := by
  intro x hx
  rcases List.mem_cons.1 hx with rfl | hx
  · exact h
  · exact hl x hx
end Go.Proofs.YtpiifdbicibelaaDoor.Pure
end
section
namespace Go.Proofs.YtpiifdbicibelaaDoor.Pure
open Go.RowKit Go.Proofs Go.Proofs.YtpiifdbicibelaaDoorW.PrintWords Go.Proofs.YtpiifdbicibelaaDoorW.PrintLast Go.Proofs.YtpiifdbicibelaaDoorW.PrintMore Go.Proofs.YtpiifdbicibelaaDoor.PA Go.Proofs.YtpiifdbicibelaaDoor.OpenK
set_option linter.unusedVariables false
set_option linter.unusedSimpArgs false
theorem Bytes.drop {L : List Int} (h : Bytes L) (i : Nat) : Bytes (L.drop i) := fun x hx => h x (List.mem_of_mem_drop hx)
theorem Bytes.take {L : List Int} (h : Bytes L) (i : Nat) : Bytes (L.take i) := fun x hx => h x (List.mem_of_mem_take hx)
theorem Bytes.tail {a : Int} {L : List Int} (h : Bytes (a :: L)) : Bytes L := fun x hx => h x (by simp [hx])
end Go.Proofs.YtpiifdbicibelaaDoor.Pure
end
section
namespace Go.Proofs.YtpiifdbicibelaaDoor.Pure
open Go.RowKit Go.Proofs Go.Proofs.YtpiifdbicibelaaDoorW.PrintWords Go.Proofs.YtpiifdbicibelaaDoorW.PrintLast Go.Proofs.YtpiifdbicibelaaDoorW.PrintMore Go.Proofs.YtpiifdbicibelaaDoor.PA Go.Proofs.YtpiifdbicibelaaDoor.OpenK
set_option linter.unusedVariables false
set_option linter.unusedSimpArgs false
theorem xor_ones (n j : Nat) (h : n < 2 ^ j) : n ^^^ (2 ^ j - 1) = 2 ^ j - 1 - n := by
  apply Nat.eq_of_testBit_eq
  intro i
  have e : 2 ^ j - 1 - n = 2 ^ j - (n + 1) := by omega
  rw [e, Nat.testBit_xor, Nat.testBit_two_pow_sub_one, Nat.testBit_two_pow_sub_succ h]
  by_cases hi : i < j
  · simp [hi]
  · have : n.testBit i = false := Nat.testBit_lt_two_pow (Nat.lt_of_lt_of_le h (Nat.pow_le_pow_right (by decide) (by omega)))
    simp [hi, this]
end Go.Proofs.YtpiifdbicibelaaDoor.Pure
end
section
namespace Go.Proofs.YtpiifdbicibelaaDoor.PA
open Go.RowKit Go.Proofs.YtpiifdbicibelaaDoorW.PrintWords Go.Proofs.YtpiifdbicibelaaDoorW.PrintLast Go.Proofs.YtpiifdbicibelaaDoorW.PrintMore
attribute [local go_sem] max2_int min2_int max_two min_two max_three min_three max_four min_four   -- for this text's walks alone
set_option linter.unusedVariables false
set_option linter.unusedSimpArgs false
def vellumref04_told.l0 : Nat → List Int → Int → Int → Option (List Int)
 | 0, _, _, _ => none
 | k + 1, x3, x4, x5 => if x5 < 8 then (if 0 ≤ (IntKind.u64.wrap (wrap64 (8 * x5))) then (if x3.length < 140737488355328 then (vellumref04_told.l0 k (x3 ++ [(shr .u64 x4 (IntKind.u64.wrap (wrap64 (8 * x5)))) % 256]) x4 (wrap64 (x5 + 1))) else (none)) else (none)) else (some x3)
def vellumref04_told.f (k : Nat) (a0_0 : Int) (a0_1 : Int) (a0_2 : Nat) (a0_3 : ByteArray) : Option (List Int) := if a0_0 = 2 then ((vellumref04_zigzag.f a0_1).bind fun t672 => ((vellumref04_varint.f k t672).bind fun t673 => (some t673))) else (if a0_0 = 3 then (vellumref04_told.l0 k ([] : List Int) ((a0_2 : Nat) : Int) 0) else (if a0_0 = 4 then ((vellumref04_varint.f k (IntKind.u64.wrap ((a0_3.size : Int)))).bind fun t679 => (if t679.length + a0_3.size < 140737488355328 then (some (t679 ++ bytesOf a0_3)) else (none))) else (if a0_0 = 5 then ((vellumref04_varint.f k (IntKind.u64.wrap ((a0_3.size : Int)))).bind fun t685 => (if t685.length + a0_3.size < 140737488355328 then (some (t685 ++ bytesOf a0_3)) else (none))) else (some ([] : List Int)))))
def vellumref04_told.T14 : Bool × List (List Nat × List Nat) := (true, [([], []), ([0], [0]), ([1], [1]), ([2], [2]), ([3], [3]), ([], []), ([5], [5]), ([4, 6, 4], [4, 6]), ([7, 7, 0, 1, 2, 3, 4, 5, 6, 7], [7])])
def vellumref04_told.B14 : List Nat := [0, 1, 3, 7, 15, 0, 32, 127, 255]
theorem vellumref04_told.tab14 : rtab .any (opsOf Tryd.f122 14) = vellumref04_told.T14 := by kernel_rfl
theorem vellumref04_told.bits14 : waitsOk vellumref04_told.T14.2 vellumref04_told.B14 = true := by kernel_rfl
set_option maxHeartbeats 8000000 in
set_option maxRecDepth 100000 in
theorem vellumref04_told.calls (k : Nat) (a0_0 : Int) (a0_1 : Int) (a0_2 : Nat) (a0_3 : ByteArray) (r : List Int) (w : World) (h : vellumref04_told.f k a0_0 a0_1 a0_2 a0_3 = some r) :
  Calls Tryd.prog 122 #[.agg #[.int .i64 a0_0, .int .i64 a0_1, .float .f64 a0_2, .string a0_3]] w fun e w' => ∃ v0_ : Value, e = .returned (v0_) ∧ Kd.R (Kd.int .u8) 5 w' w.heap.size (fun _ => True) v0_ r ∧ Below w.heap.size w w' := by
 have hu50 := Tryd.underlying50
 have HB := Aside0.mk (Below.refl w.heap.size w)
 have H : (if a0_0 = 2 then ((vellumref04_zigzag.f a0_1).bind fun t672 => ((vellumref04_varint.f k t672).bind fun t673 => (some t673))) else (if a0_0 = 3 then (vellumref04_told.l0 k ([] : List Int) ((a0_2 : Nat) : Int) 0) else (if a0_0 = 4 then ((vellumref04_varint.f k (IntKind.u64.wrap ((a0_3.size : Int)))).bind fun t679 => (if t679.length + a0_3.size < 140737488355328 then (some (t679 ++ bytesOf a0_3)) else (none))) else (if a0_0 = 5 then ((vellumref04_varint.f k (IntKind.u64.wrap ((a0_3.size : Int)))).bind fun t685 => (if t685.length + a0_3.size < 140737488355328 then (some (t685 ++ bytesOf a0_3)) else (none))) else (some ([] : List Int)))))) = some r := h
 clear h
 by_cases c2 : a0_0 = 2
 ·rw [if_pos c2] at H
  have c2b0 : (a0_0 == 2) = true := beq_iff_eq.mpr c2
  have c2b1 : (a0_0 != 2) = false := bne_eq_false_iff_eq.mpr c2
  clear c2
  replace H := Option.bind_eq_some_iff.mp H
  obtain ⟨t672, A30, H⟩ := H
  replace H : ((vellumref04_varint.f k t672).bind fun t673 => (some t673)) = some r := H
  have A3 := Aside0.mk A30
  clear A30
  replace H := Option.bind_eq_some_iff.mp H
  obtain ⟨t673, A40, H⟩ := H
  replace H : (some t673) = some r := H
  have A4 := Aside0.mk A40
  clear A40
  obtain rfl := Option.some.inj H
  go_enter Tryd.func122, Tryd.ntmps122
  go_wp2_with (first | ((with_reducible refine gate_dst (N := 1) rfl ?_); refine box_event ?hg (N := 1) ?hd (cs := #[.int .i64 a0_0, .int .i64 a0_1, .float .f64 a0_2, .string a0_3]) (t := 50) ?hr ?_; (case hd => rfl); (case hg => rfl); (case hr => first | (go_simp; done) | (go_simp; rfl)); intro gb671 hg w5 hbox hb; have n0_ := Aside0.mk (below_step (by repeat (first | (with_reducible first | exact HB.out | apply below_alloc | apply pw_below_drewN | apply below_drew1) | exact HB.out)) hb); have n1_ := Aside0.mk (hbox); have n2_ := Aside0.mk ((by rw [hg]; exact (below_size (by repeat (first | (with_reducible first | exact HB.out | apply below_alloc | apply pw_below_drewN | apply below_drew1) | exact HB.out))) : w.heap.size ≤ gb671)); have n3_ := n2_; clear HB; have HB := n0_; have BK671 := n1_; have GW671 := n2_; have GE671 := n3_; clear n0_ n1_ n2_ n3_; clear hb hbox hg; have hcz6_0 : w5.cell? ⟨gb671, 0, none⟩ = some (.int .i64 a0_0) := (blk_cell BK671.out 0).trans rfl; have hcz6_1 : w5.cell? ⟨gb671, 1, none⟩ = some (.int .i64 a0_1) := (blk_cell BK671.out 1).trans rfl; have hcz6_2 : w5.cell? ⟨gb671, 2, none⟩ = some (.float .f64 a0_2) := (blk_cell BK671.out 2).trans rfl; have hcz6_3 : w5.cell? ⟨gb671, 3, none⟩ = some (.string a0_3) := (blk_cell BK671.out 3).trans rfl; have hfz6_0 := blk_frozen BK671.out 0; have hfz6_1 := blk_frozen BK671.out 1; have hfz6_2 := blk_frozen BK671.out 2; have hfz6_3 := blk_frozen BK671.out 3) | ((with_reducible refine gate_callee (f := 160) rfl ?_); refine goesL_ (some 12) rfl rfl Tryd.func160 (by kernel_rfl) rfl #[.int .i64 a0_1] rfl (by (try simp only [List.map_toArray, List.map_cons, List.map_nil]); first | done | rfl | (simp only [List.length_drop, List.length_take]; rfl)) ?_; (with_reducible refine (vellumref04_zigzag.calls a0_1 t672 _ A3.out).mono ?_); rintro e w' ⟨rfl, ⟨nd, rfl⟩⟩; refine ⟨_, rfl, ?_⟩) | ((with_reducible refine gate_callee (f := 90) rfl ?_); refine goesL_ (some 13) rfl rfl Tryd.func90 (by kernel_rfl) rfl #[.int .u64 t672] rfl (by (try simp only [List.map_toArray, List.map_cons, List.map_nil]); first | done | rfl | (simp only [List.length_drop, List.length_take]; rfl)) ?_; (with_reducible refine (vellumref04_varint.calls k t672 t673 _ A4.out).mono ?_); rintro e w7 ⟨v674, rfl, ho0, hb⟩; refine ⟨_, rfl, ?_⟩; have n0_ := Aside0.mk (Kd.R_lower ho0 (below_size (by repeat (first | (with_reducible first | exact HB.out | apply below_alloc | apply pw_below_drewN | apply below_drew1 | refine below_set ?_ GE671.out) | exact HB.out)))); have n1_ := Aside0.mk (blk_below (g := gb671) (o := .cells #[.int .i64 a0_0, .int .i64 a0_1, .float .f64 a0_2, .string a0_3] 50 (0, 0)) (by (with_reducible repeat (first | refine blk_drewN ?_ _ | refine blk_drew ?_ | refine blk_alloc ?_ _)); exact BK671.out) hb); have n2_ := Aside0.mk (below_step (by repeat (first | (with_reducible first | exact HB.out | apply below_alloc | apply pw_below_drewN | apply below_drew1 | refine below_set ?_ GE671.out) | exact HB.out)) hb); clear BK671; clear HB; have HO675 := n0_; have BK671 := n1_; have HB := n2_; clear n0_ n1_ n2_; (try clear hb); (try clear hb2); (try clear hk); (try clear hi); (try clear ho0)))
  go_ret
  exact ⟨_, by first | rfl | (simp [errW_none, errW_some] <;> rfl) | (simp [*, errW_none, errW_some] <;> rfl), by (with_reducible repeat (first | apply Kd.R_alloc | apply Kd.R_drewN | apply Kd.R_drew)); exact HO675.out, by repeat (first | (with_reducible first | exact HB.out | apply below_alloc | apply pw_below_drewN | apply below_drew1 | refine below_set ?_ GE671.out) | exact HB.out)⟩
 ·rw [if_neg c2] at H
  have c2b0 : (a0_0 == 2) = false := beq_eq_false_iff_ne.mpr c2
  have c2b1 : (a0_0 != 2) = true := bne_iff_ne.mpr c2
  by_cases c8 : a0_0 = 3
  ·rw [if_pos c8] at H
   have c8b0 : (a0_0 == 3) = true := beq_iff_eq.mpr c8
   have c8b1 : (a0_0 != 3) = false := bne_eq_false_iff_eq.mpr c8
   clear c8
   have H' := Aside0.mk H
   clear H
   go_enter Tryd.func122, Tryd.ntmps122
   go_wp2_with (first | ((with_reducible refine gate_dst (N := 1) rfl ?_); refine box_event ?hg (N := 1) ?hd (cs := #[.int .i64 a0_0, .int .i64 a0_1, .float .f64 a0_2, .string a0_3]) (t := 50) ?hr ?_; (case hd => rfl); (case hg => rfl); (case hr => first | (go_simp; done) | (go_simp; rfl)); intro gb671 hg w9 hbox hb; have n0_ := Aside0.mk (below_step (by repeat (first | (with_reducible first | exact HB.out | apply below_alloc | apply pw_below_drewN | apply below_drew1) | exact HB.out)) hb); have n1_ := Aside0.mk (hbox); have n2_ := Aside0.mk ((by rw [hg]; exact (below_size (by repeat (first | (with_reducible first | exact HB.out | apply below_alloc | apply pw_below_drewN | apply below_drew1) | exact HB.out))) : w.heap.size ≤ gb671)); have n3_ := n2_; clear HB; have HB := n0_; have BK671 := n1_; have GW671 := n2_; have GE671 := n3_; clear n0_ n1_ n2_ n3_; clear hb hbox hg; have hcz10_0 : w9.cell? ⟨gb671, 0, none⟩ = some (.int .i64 a0_0) := (blk_cell BK671.out 0).trans rfl; have hcz10_1 : w9.cell? ⟨gb671, 1, none⟩ = some (.int .i64 a0_1) := (blk_cell BK671.out 1).trans rfl; have hcz10_2 : w9.cell? ⟨gb671, 2, none⟩ = some (.float .f64 a0_2) := (blk_cell BK671.out 2).trans rfl; have hcz10_3 : w9.cell? ⟨gb671, 3, none⟩ = some (.string a0_3) := (blk_cell BK671.out 3).trans rfl; have hfz10_0 := blk_frozen BK671.out 0; have hfz10_1 := blk_frozen BK671.out 1; have hfz10_2 := blk_frozen BK671.out 2; have hfz10_3 := blk_frozen BK671.out 3))
   go_loopg [3, 5] k (fun kq v3 v5 w' => ∃ (x3_1 : List Int) (x5_1 : Int), v5 = .int .i64 x5_1 ∧ Aside0 (vellumref04_told.l0 kq x3_1 ((a0_2 : Nat) : Int) x5_1 = some r) ∧ Aside0 (kq ≤ k) ∧ Aside0 (Kd.R (Kd.int .u8) 5 w' w.heap.size (fun _ => True) v3 x3_1) ∧ Aside0 (w'.heap[gb671]? = some (.cells #[.int .i64 a0_0, .int .i64 a0_1, .float .f64 a0_2, .string a0_3] 50 (0, 0))) ∧ Aside0 (Below w.heap.size w w'))
   case atStart => exact ⟨(([] : List Int)), (0), (by first | rfl | (simp; done) | (simp [*]; done) | (simp [bool_ne_nil]; done) | (simp; exact bool_ne_nil _)), H', ⟨Nat.le_refl _⟩, ⟨by first | exact Kd.R_nil _ _ _ _ _ | exact Kd.N_nil _ _ _ _ _ | exact Kd.V_nil _ _ _ _ _ | exact Kd.Q_nil _ _ _ _ _ | exact Kd.S_nil _ _ _ _ _⟩, ⟨by (with_reducible repeat (first | refine blk_drewN ?_ _ | refine blk_drew ?_ | refine blk_alloc ?_ _)); exact BK671.out⟩, ⟨by repeat (first | (with_reducible first | exact HB.out | apply below_alloc | apply pw_below_drewN | apply below_drew1 | refine below_set ?_ GE671.out) | exact HB.out)⟩⟩
   case round =>
    clear H'
    (try clear c1); (try clear c2); (try clear c2b0); (try clear c2b1); (try clear p2); (try clear c8); (try clear c8b0); (try clear c8b1); (try clear c9); (try clear hcz10_0); (try clear hcz10_1); (try clear hcz10_2); (try clear hcz10_3); (try clear hcz6_0); (try clear hcz6_1); (try clear hcz6_2); (try clear hcz6_3); (try clear hfz10_0); (try clear hfz10_1); (try clear hfz10_2); (try clear hfz10_3); (try clear hfz6_0); (try clear hfz6_1); (try clear hfz6_2); (try clear hfz6_3)
    obtain ⟨x3_1, x5_1, rfl, HA, HK1, HO_3, BK671, HB⟩ := hrel
    cases gk with
    | zero => exact absurd HA.out (by simp [vellumref04_told.l0])
    | succ k1 =>
     have H := HA.out
     clear HA
     simp only [vellumref04_told.l0] at H
     by_cases c11 : x5_1 < 8
     ·rw [if_pos c11] at H
      have c11b0 : decide (x5_1 < 8) = true := decide_eq_true c11
      clear c11
      obtain ⟨ji12, hji12⟩ : ∃ j_ : Int, (IntKind.u64.wrap (wrap64 (8 * x5_1))) = j_ := ⟨_, rfl⟩
      replace H : (if 0 ≤ (ji12) then (if x3_1.length < 140737488355328 then (vellumref04_told.l0 k1 (x3_1 ++ [(shr .u64 ((a0_2 : Nat) : Int) (ji12)) % 256]) ((a0_2 : Nat) : Int) (wrap64 (x5_1 + 1))) else (none)) else (none)) = some r := by first | (rw [hji12] at H; exact H) | (simp only [hji12] at H ⊢; exact H)
      by_cases c13 : 0 ≤ (ji12)
      ·rw [if_pos c13] at H
       have c13b0 := eq_true c13
       have c13b1 : decide (0 ≤ (ji12)) = true := decide_eq_true c13
       clear c13
       obtain ⟨ji14, hji14⟩ : ∃ j_ : Int, (shr .u64 ((a0_2 : Nat) : Int) (ji12)) = j_ := ⟨_, rfl⟩
       replace H : (if x3_1.length < 140737488355328 then (vellumref04_told.l0 k1 (x3_1 ++ [(ji14) % 256]) ((a0_2 : Nat) : Int) (wrap64 (x5_1 + 1))) else (none)) = some r := by first | (rw [hji14] at H; exact H) | (simp only [hji14] at H ⊢; exact H)
       have hji14_ : (((a0_2 : Nat) : Int) / 2 ^ min (ji12).toNat 64) = ji14 := hji14
       have hji14z : (ji12) ≤ 64 → (((a0_2 : Nat) : Int) / 2 ^ (ji12).toNat) = ji14 := shr_small hji14
       by_cases c15 : x3_1.length < 140737488355328
       ·rw [if_pos c15] at H
        have LMc15 := Aside0.mk c15
        clear c15
        obtain ⟨y676, hy676⟩ : ∃ y_ : List Int, y_ = (x3_1 ++ [(ji14) % 256]) := ⟨_, rfl⟩
        replace H : (vellumref04_told.l0 k1 y676 ((a0_2 : Nat) : Int) (wrap64 (x5_1 + 1))) = some r := by first | (rw [hy676]; with_reducible exact H) | (have H2_ := (Option.bind_some _ _).symm.trans H; rw [hy676]; with_reducible exact H2_) | (have H2_ := (Option.bind_some _ _).symm.trans H; with_reducible exact H2_) | with_reducible exact H | (rw [hy676]; exact H) | exact H
        have Ny676 := Aside0.mk hy676
        clear hy676
        have H' := Aside0.mk H
        clear H
        go_wp2_with (first | ((with_reducible refine gate_builtin (b := .append) (xs := #[.tmp 23, .tmp 30]) rfl ?_); at_builtin; refine Kd.R_append (Kd.int .u8) (w0 := w) w.heap.size rfl (.tmp 23) (.tmp 30) 80 5 (.int .u8 0) 1 rfl Tryd.underlying80 info5 rfl (by decide) (by omega) u3 x3_1 ((ji14) % 256) [.int .u8 ((ji14) % 256)] (fun _ => True) (fun _ => False) rfl rfl ?aP (fun _ hk => hk.elim) ?aF ?aO ?aB ?aS ?aL ?_; (case aP => exact rfl); (case aB => exact (by repeat (first | (with_reducible first | exact HB.out | apply below_alloc | apply pw_below_drewN | apply below_drew1 | refine below_set ?_ GE671.out) | exact HB.out))); (case aF => exact (fun _ _ => trivial)); (case aO => exact (by (with_reducible repeat (first | apply Kd.R_alloc | apply Kd.R_drewN | apply Kd.R_drew)); exact HO_3.out)); (case aS => exact (below_size (by repeat (first | (with_reducible first | exact HB.out | apply below_alloc | apply pw_below_drewN | apply below_drew1 | refine below_set ?_ GE671.out) | exact HB.out)))); (case aL => have := LMc15.out; omega); intro v677 w16 ho hb hg hat; rw [← Ny676.out] at ho; have n0_ := Aside0.mk (blk_grown (g := gb671) (o := .cells #[.int .i64 a0_0, .int .i64 a0_1, .float .f64 a0_2, .string a0_3] 50 (0, 0)) (by (with_reducible repeat (first | refine blk_drewN ?_ _ | refine blk_drew ?_ | refine blk_alloc ?_ _)); exact BK671.out) hg (Kd.R_ne HO_3.out BK671.out (by decide))); have n1_ := Aside0.mk (hb); have n2_ := Aside0.mk (ho); clear BK671; clear HB; clear HO_3; have BK671 := n0_; have HB := n1_; have HO678 := n2_; clear n0_ n1_ n2_; clear ho hb hg hat))
        go_roundg k1
        case measure => have := HK1.out; omega
        case rel => exact ⟨(y676), (wrap64 (x5_1 + 1)), (by first | rfl | (simp; done) | (simp [*]; done) | (simp [bool_ne_nil]; done) | (simp; exact bool_ne_nil _)), H', ⟨by have := HK1.out; omega⟩, ⟨by (with_reducible repeat (first | apply Kd.R_alloc | apply Kd.R_drewN | apply Kd.R_drew)); exact HO678.out⟩, ⟨by (with_reducible repeat (first | refine blk_drewN ?_ _ | refine blk_drew ?_ | refine blk_alloc ?_ _)); exact BK671.out⟩, ⟨by repeat (first | (with_reducible first | exact HB.out | apply below_alloc | apply pw_below_drewN | apply below_drew1 | refine below_set ?_ GE671.out) | exact HB.out)⟩⟩
       ·rw [if_neg c15] at H
        exact absurd H (by simp)
      ·rw [if_neg c13] at H
       exact absurd H (by simp)
     ·rw [if_neg c11] at H
      have c11b0 : decide (x5_1 < 8) = false := decide_eq_false c11
      clear c11
      obtain rfl := Option.some.inj H
      go_wp2
      go_ret
      exact ⟨_, by first | rfl | (simp [errW_none, errW_some] <;> rfl) | (simp [*, errW_none, errW_some] <;> rfl), by (with_reducible repeat (first | apply Kd.R_alloc | apply Kd.R_drewN | apply Kd.R_drew)); exact HO_3.out, by repeat (first | (with_reducible first | exact HB.out | apply below_alloc | apply pw_below_drewN | apply below_drew1 | refine below_set ?_ GE671.out) | exact HB.out)⟩
  ·rw [if_neg c8] at H
   have c8b0 : (a0_0 == 3) = false := beq_eq_false_iff_ne.mpr c8
   have c8b1 : (a0_0 != 3) = true := bne_iff_ne.mpr c8
   by_cases c17 : a0_0 = 4
   ·rw [if_pos c17] at H
    have c17b0 : (a0_0 == 4) = true := beq_iff_eq.mpr c17
    have c17b1 : (a0_0 != 4) = false := bne_eq_false_iff_eq.mpr c17
    clear c17
    replace H := Option.bind_eq_some_iff.mp H
    obtain ⟨t679, A180, H⟩ := H
    replace H : (if t679.length + a0_3.size < 140737488355328 then (some (t679 ++ bytesOf a0_3)) else (none)) = some r := H
    have A18 := Aside0.mk A180
    clear A180
    by_cases c19 : t679.length + a0_3.size < 140737488355328
    ·rw [if_pos c19] at H
     have LMc19 := Aside0.mk c19
     clear c19
     obtain ⟨y682, hy682⟩ : ∃ y_ : List Int, y_ = (t679 ++ bytesOf a0_3) := ⟨_, rfl⟩
     replace H : (some y682) = some r := by first | (rw [hy682]; with_reducible exact H) | (have H2_ := (Option.bind_some _ _).symm.trans H; rw [hy682]; with_reducible exact H2_) | (have H2_ := (Option.bind_some _ _).symm.trans H; with_reducible exact H2_) | with_reducible exact H | (rw [hy682]; exact H) | exact H
     have Ny682 := Aside0.mk hy682
     clear hy682
     obtain rfl := Option.some.inj H
     go_enter Tryd.func122, Tryd.ntmps122
     try go_wp2_with (first | ((with_reducible refine gate_dst (N := 1) rfl ?_); refine box_event ?hg (N := 1) ?hd (cs := #[.int .i64 a0_0, .int .i64 a0_1, .float .f64 a0_2, .string a0_3]) (t := 50) ?hr ?_; (case hd => rfl); (case hg => rfl); (case hr => first | (go_simp; done) | (go_simp; rfl)); intro gb671 hg w20 hbox hb; have n0_ := Aside0.mk (below_step (by repeat (first | (with_reducible first | exact HB.out | apply below_alloc | apply pw_below_drewN | apply below_drew1) | exact HB.out)) hb); have n1_ := Aside0.mk (hbox); have n2_ := Aside0.mk ((by rw [hg]; exact (below_size (by repeat (first | (with_reducible first | exact HB.out | apply below_alloc | apply pw_below_drewN | apply below_drew1) | exact HB.out))) : w.heap.size ≤ gb671)); have n3_ := n2_; clear HB; have HB := n0_; have BK671 := n1_; have GW671 := n2_; have GE671 := n3_; clear n0_ n1_ n2_ n3_; clear hb hbox hg; have hcz21_0 : w20.cell? ⟨gb671, 0, none⟩ = some (.int .i64 a0_0) := (blk_cell BK671.out 0).trans rfl; have hcz21_1 : w20.cell? ⟨gb671, 1, none⟩ = some (.int .i64 a0_1) := (blk_cell BK671.out 1).trans rfl; have hcz21_2 : w20.cell? ⟨gb671, 2, none⟩ = some (.float .f64 a0_2) := (blk_cell BK671.out 2).trans rfl; have hcz21_3 : w20.cell? ⟨gb671, 3, none⟩ = some (.string a0_3) := (blk_cell BK671.out 3).trans rfl; have hfz21_0 := blk_frozen BK671.out 0; have hfz21_1 := blk_frozen BK671.out 1; have hfz21_2 := blk_frozen BK671.out 2; have hfz21_3 := blk_frozen BK671.out 3))
     have n0_ := Aside0.mk (blk_drew BK671.out)
     have n1_ := Aside0.mk (below_drew1 HB.out)
     clear BK671
     clear HB
     have BK671 := n0_
     have HB := n1_
     clear n0_ n1_
     refine start_ (n := 9) (S := fun w' => w'.cell? ⟨gb671, 0, none⟩ = some (.int .i64 a0_0) ∧ w'.cell? ⟨gb671, 1, none⟩ = some (.int .i64 a0_1) ∧ w'.cell? ⟨gb671, 2, none⟩ = some (.float .f64 a0_2) ∧ w'.cell? ⟨gb671, 3, none⟩ = some (.string a0_3)) (ds := []) #[false, false, false, false, false, false, false, false, false] (by kernel_rfl) rfl rfl ⟨(blk_cell BK671.out 0).trans rfl, (blk_cell BK671.out 1).trans rfl, (blk_cell BK671.out 2).trans rfl, (blk_cell BK671.out 3).trans rfl⟩ (fun hHeld => ?_); refine with_tabW vellumref04_told.tab14 vellumref04_told.bits14 (fun HT_ HW_ => ?_)
     generalize w20.drew = w22 at BK671 HB hHeld ⊢
     refine pure_ (i := 0) (N := some 36) (v := ?_) (a' := ?_) #[true, false, false, false, false, false, false, false, false] rfl rfl (any_of HT_.out (by kernel_rfl)) (fun _ _ _ h => h) (Or.inl ⟨by rfl, ?_⟩) ?_ ?_
     rotate_left
     ·intro w'
      go_simp
      with_reducible rfl
     rotate_left
     ·simp only [Act.put, List.setIfInBounds_toArray, List.set_cons_zero, List.set_cons_succ, i64_w, i32_w]
      rfl
     refine pure_ (i := 5) (N := some 41) (v := ?_) (a' := ?_) #[true, false, false, false, false, true, false, false, false] rfl rfl (any_of HT_.out (by kernel_rfl)) (fun _ _ _ h => h) (Or.inl ⟨by rfl, ?_⟩) ?_ ?_
     rotate_left
     ·intro w'
      go_simp
      with_reducible rfl
     rotate_left
     ·simp only [Act.put, List.setIfInBounds_toArray, List.set_cons_zero, List.set_cons_succ, i64_w, i32_w]
      rfl
     refine take_ (i := 1) (N := some 37) (v := ?_) (a' := ?_) #[true, true, false, false, false, true, false, false, false] rfl rfl (take_ofW HT_.out HW_.out (by kernel_rfl)) (fun _ _ _ h => h) (Or.inl ⟨by rfl, ?_⟩) hHeld ?_ ?_
     rotate_left
     ·rintro w' ⟨s0, s1, s2, s3⟩
      go_simp
      with_reducible rfl
     rotate_left
     ·simp only [Act.put, List.setIfInBounds_toArray, List.set_cons_zero, List.set_cons_succ, i64_w, i32_w]
      rfl
     refine pure_ (i := 2) (N := some 38) (v := ?_) (a' := ?_) #[true, true, true, false, false, true, false, false, false] rfl rfl (any_of HT_.out (by kernel_rfl)) (fun _ _ _ h => h) (Or.inl ⟨by rfl, ?_⟩) ?_ ?_
     rotate_left
     ·intro w'
      go_simp
      with_reducible rfl
     rotate_left
     ·simp only [Act.put, List.setIfInBounds_toArray, List.set_cons_zero, List.set_cons_succ, i64_w, i32_w]
      rfl
     refine pure_ (i := 3) (N := some 39) (v := ?_) (a' := ?_) #[true, true, true, true, false, true, false, false, false] rfl rfl (any_of HT_.out (by kernel_rfl)) (fun _ _ _ h => h) (Or.inl ⟨by rfl, ?_⟩) ?_ ?_
     rotate_left
     ·intro w'
      go_simp
      with_reducible rfl
     rotate_left
     ·simp only [Act.put, List.setIfInBounds_toArray, List.set_cons_zero, List.set_cons_succ, i64_w, i32_w]
      rfl
     refine take_ (i := 6) (N := some 42) (v := ?_) (a' := ?_) #[true, true, true, true, false, true, true, false, false] rfl rfl (take_ofW HT_.out HW_.out (by kernel_rfl)) (fun _ _ _ h => h) (Or.inl ⟨by rfl, ?_⟩) hHeld ?_ ?_
     rotate_left
     ·rintro w' ⟨s0, s1, s2, s3⟩
      go_simp
      with_reducible rfl
     rotate_left
     ·simp only [Act.put, List.setIfInBounds_toArray, List.set_cons_zero, List.set_cons_succ, i64_w, i32_w]
      rfl
     refine one_ (i := 4) (N := some 40) #[true, true, true, true, true, true, true, false, false] rfl rfl (one_of HT_.out (by kernel_rfl)) (by decide) (fun K hK => ?_)
     refine goes_ Tryd.func90 (by kernel_rfl) rfl #[.int .u64 (IntKind.u64.wrap ((a0_3.size : Int)))] (by rfl) rfl rfl (by (try simp only [List.map_toArray, List.map_cons, List.map_nil]); first | done | rfl | (simp only [List.length_drop, List.length_take]; rfl)) ?_
     with_reducible refine (vellumref04_varint.calls k (IntKind.u64.wrap ((a0_3.size : Int))) t679 _ A18.out).mono ?_
     rintro e w23 ⟨v680, rfl, ho0, hb⟩
     refine ⟨_, rfl, ?_⟩
     have n0_ := Aside0.mk (Kd.R_lower ho0 (below_size (by repeat (first | (with_reducible first | exact HB.out | apply below_alloc | apply pw_below_drewN | apply below_drew1 | refine below_set ?_ GE671.out) | exact HB.out))))
     have n1_ := Aside0.mk (blk_below (g := gb671) (o := .cells #[.int .i64 a0_0, .int .i64 a0_1, .float .f64 a0_2, .string a0_3] 50 (0, 0)) (by (with_reducible repeat (first | refine blk_drewN ?_ _ | refine blk_drew ?_ | refine blk_alloc ?_ _)); exact BK671.out) hb)
     have n2_ := Aside0.mk (below_step (by repeat (first | (with_reducible first | exact HB.out | apply below_alloc | apply pw_below_drewN | apply below_drew1 | refine below_set ?_ GE671.out) | exact HB.out)) hb)
     clear BK671
     clear HB
     have HO681 := n0_
     have BK671 := n1_
     have HB := n2_
     clear n0_ n1_ n2_
     (try clear hb)
     (try clear hb2)
     (try clear hk)
     (try clear hi)
     (try clear ho0)
     refine hK.out _ _ ⟨(blk_cell BK671.out 0).trans rfl, (blk_cell BK671.out 1).trans rfl, (blk_cell BK671.out 2).trans rfl, (blk_cell BK671.out 3).trans rfl⟩ (fun hHeld => ?_)
     clear hK K
     refine norm_ (a' := ?_) ?_ ?_
     rotate_left
     ·show Act.put _ (some 40) _ = _
      simp only [Act.put, List.setIfInBounds_toArray, List.set_cons_zero, List.set_cons_succ, i64_w, i32_w]
      rfl
     refine one_ (i := 7) (N := some 43) #[true, true, true, true, true, true, true, true, false] rfl rfl (one_of HT_.out (by kernel_rfl)) (by decide) (fun K hK => ?_)
     refine Kd.R_append_str_step (w0 := w) w.heap.size (by rfl) (.tmp 40) _ 80 9 5 rfl Tryd.underlying80 Tryd.underlying9 info5 v680 t679 a0_3 (fun _ => True) rfl rfl ?aF ?aO ?aB ?aS ?aL ?_
     (case aB => exact (by repeat (first | (with_reducible first | exact HB.out | apply below_alloc | apply pw_below_drewN | apply below_drew1 | refine below_set ?_ GE671.out) | exact HB.out)))
     (case aF => exact (fun _ _ => trivial))
     (case aO => exact (by (with_reducible repeat (first | apply Kd.R_alloc | apply Kd.R_drewN | apply Kd.R_drew)); exact HO681.out))
     (case aS => exact (below_size (by repeat (first | (with_reducible first | exact HB.out | apply below_alloc | apply pw_below_drewN | apply below_drew1 | refine below_set ?_ GE671.out) | exact HB.out))))
     (case aL => have := LMc19.out; omega)
     intro v683 w24 ho hb hg hat
     rw [← Ny682.out] at ho
     have n0_ := Aside0.mk (blk_grown (g := gb671) (o := .cells #[.int .i64 a0_0, .int .i64 a0_1, .float .f64 a0_2, .string a0_3] 50 (0, 0)) (by (with_reducible repeat (first | refine blk_drewN ?_ _ | refine blk_drew ?_ | refine blk_alloc ?_ _)); exact BK671.out) hg (Kd.R_ne HO681.out BK671.out (by decide)))
     have n1_ := Aside0.mk (hb)
     have n2_ := Aside0.mk (ho)
     clear BK671
     clear HB
     clear HO681
     have BK671 := n0_
     have HB := n1_
     have HO684 := n2_
     clear n0_ n1_ n2_
     clear ho hb hg hat
     refine hK.out _ _ ⟨(blk_cell BK671.out 0).trans rfl, (blk_cell BK671.out 1).trans rfl, (blk_cell BK671.out 2).trans rfl, (blk_cell BK671.out 3).trans rfl⟩ (fun hHeld => ?_)
     clear hK K
     refine norm_ (a' := ?_) ?_ ?_
     rotate_left
     ·show Act.put _ (some 43) _ = _
      simp only [Act.put, List.setIfInBounds_toArray, List.set_cons_zero, List.set_cons_succ, i64_w, i32_w]
      rfl
     refine pure_ (i := 8) (N := some 2) (v := ?_) (a' := ?_) #[true, true, true, true, true, true, true, true, true] rfl rfl (any_of HT_.out (by kernel_rfl)) (fun _ _ _ h => h) (Or.inl ⟨by rfl, ?_⟩) ?_ ?_
     rotate_left
     ·intro w'
      go_simp
      with_reducible rfl
     rotate_left
     ·simp only [Act.put, List.setIfInBounds_toArray, List.set_cons_zero, List.set_cons_succ, i64_w, i32_w]
      rfl
     refine done_ (done_of HT_.out (by kernel_rfl)) ?_
     try go_wp2
     go_ret
     exact ⟨_, by first | rfl | (simp [errW_none, errW_some] <;> rfl) | (simp [*, errW_none, errW_some] <;> rfl), by (with_reducible repeat (first | apply Kd.R_alloc | apply Kd.R_drewN | apply Kd.R_drew)); exact HO684.out, by repeat (first | (with_reducible first | exact HB.out | apply below_alloc | apply pw_below_drewN | apply below_drew1 | refine below_set ?_ GE671.out) | exact HB.out)⟩
    ·rw [if_neg c19] at H
     exact absurd H (by simp)
   ·rw [if_neg c17] at H
    have c17b0 : (a0_0 == 4) = false := beq_eq_false_iff_ne.mpr c17
    have c17b1 : (a0_0 != 4) = true := bne_iff_ne.mpr c17
    by_cases c25 : a0_0 = 5
    ·rw [if_pos c25] at H
     have c25b0 : (a0_0 == 5) = true := beq_iff_eq.mpr c25
     have c25b1 : (a0_0 != 5) = false := bne_eq_false_iff_eq.mpr c25
     clear c25
     replace H := Option.bind_eq_some_iff.mp H
     obtain ⟨t685, A260, H⟩ := H
     replace H : (if t685.length + a0_3.size < 140737488355328 then (some (t685 ++ bytesOf a0_3)) else (none)) = some r := H
     have A26 := Aside0.mk A260
     clear A260
     by_cases c27 : t685.length + a0_3.size < 140737488355328
     ·rw [if_pos c27] at H
      have LMc27 := Aside0.mk c27
      clear c27
      obtain ⟨y688, hy688⟩ : ∃ y_ : List Int, y_ = (t685 ++ bytesOf a0_3) := ⟨_, rfl⟩
      replace H : (some y688) = some r := by first | (rw [hy688]; with_reducible exact H) | (have H2_ := (Option.bind_some _ _).symm.trans H; rw [hy688]; with_reducible exact H2_) | (have H2_ := (Option.bind_some _ _).symm.trans H; with_reducible exact H2_) | with_reducible exact H | (rw [hy688]; exact H) | exact H
      have Ny688 := Aside0.mk hy688
      clear hy688
      obtain rfl := Option.some.inj H
      go_enter Tryd.func122, Tryd.ntmps122
      try go_wp2_with (first | ((with_reducible refine gate_dst (N := 1) rfl ?_); refine box_event ?hg (N := 1) ?hd (cs := #[.int .i64 a0_0, .int .i64 a0_1, .float .f64 a0_2, .string a0_3]) (t := 50) ?hr ?_; (case hd => rfl); (case hg => rfl); (case hr => first | (go_simp; done) | (go_simp; rfl)); intro gb671 hg w28 hbox hb; have n0_ := Aside0.mk (below_step (by repeat (first | (with_reducible first | exact HB.out | apply below_alloc | apply pw_below_drewN | apply below_drew1) | exact HB.out)) hb); have n1_ := Aside0.mk (hbox); have n2_ := Aside0.mk ((by rw [hg]; exact (below_size (by repeat (first | (with_reducible first | exact HB.out | apply below_alloc | apply pw_below_drewN | apply below_drew1) | exact HB.out))) : w.heap.size ≤ gb671)); have n3_ := n2_; clear HB; have HB := n0_; have BK671 := n1_; have GW671 := n2_; have GE671 := n3_; clear n0_ n1_ n2_ n3_; clear hb hbox hg; have hcz29_0 : w28.cell? ⟨gb671, 0, none⟩ = some (.int .i64 a0_0) := (blk_cell BK671.out 0).trans rfl; have hcz29_1 : w28.cell? ⟨gb671, 1, none⟩ = some (.int .i64 a0_1) := (blk_cell BK671.out 1).trans rfl; have hcz29_2 : w28.cell? ⟨gb671, 2, none⟩ = some (.float .f64 a0_2) := (blk_cell BK671.out 2).trans rfl; have hcz29_3 : w28.cell? ⟨gb671, 3, none⟩ = some (.string a0_3) := (blk_cell BK671.out 3).trans rfl; have hfz29_0 := blk_frozen BK671.out 0; have hfz29_1 := blk_frozen BK671.out 1; have hfz29_2 := blk_frozen BK671.out 2; have hfz29_3 := blk_frozen BK671.out 3))
      have n0_ := Aside0.mk (blk_drew BK671.out)
      have n1_ := Aside0.mk (below_drew1 HB.out)
      clear BK671
      clear HB
      have BK671 := n0_
      have HB := n1_
      clear n0_ n1_
      refine start_ (n := 9) (S := fun w' => w'.cell? ⟨gb671, 0, none⟩ = some (.int .i64 a0_0) ∧ w'.cell? ⟨gb671, 1, none⟩ = some (.int .i64 a0_1) ∧ w'.cell? ⟨gb671, 2, none⟩ = some (.float .f64 a0_2) ∧ w'.cell? ⟨gb671, 3, none⟩ = some (.string a0_3)) (ds := []) #[false, false, false, false, false, false, false, false, false] (by kernel_rfl) rfl rfl ⟨(blk_cell BK671.out 0).trans rfl, (blk_cell BK671.out 1).trans rfl, (blk_cell BK671.out 2).trans rfl, (blk_cell BK671.out 3).trans rfl⟩ (fun hHeld => ?_); refine with_tabW vellumref04_told.tab14 vellumref04_told.bits14 (fun HT_ HW_ => ?_)
      generalize w28.drew = w30 at BK671 HB hHeld ⊢
      refine pure_ (i := 0) (N := some 36) (v := ?_) (a' := ?_) #[true, false, false, false, false, false, false, false, false] rfl rfl (any_of HT_.out (by kernel_rfl)) (fun _ _ _ h => h) (Or.inl ⟨by rfl, ?_⟩) ?_ ?_
      rotate_left
      ·intro w'
       go_simp
       with_reducible rfl
      rotate_left
      ·simp only [Act.put, List.setIfInBounds_toArray, List.set_cons_zero, List.set_cons_succ, i64_w, i32_w]
       rfl
      refine pure_ (i := 5) (N := some 41) (v := ?_) (a' := ?_) #[true, false, false, false, false, true, false, false, false] rfl rfl (any_of HT_.out (by kernel_rfl)) (fun _ _ _ h => h) (Or.inl ⟨by rfl, ?_⟩) ?_ ?_
      rotate_left
      ·intro w'
       go_simp
       with_reducible rfl
      rotate_left
      ·simp only [Act.put, List.setIfInBounds_toArray, List.set_cons_zero, List.set_cons_succ, i64_w, i32_w]
       rfl
      refine take_ (i := 1) (N := some 37) (v := ?_) (a' := ?_) #[true, true, false, false, false, true, false, false, false] rfl rfl (take_ofW HT_.out HW_.out (by kernel_rfl)) (fun _ _ _ h => h) (Or.inl ⟨by rfl, ?_⟩) hHeld ?_ ?_
      rotate_left
      ·rintro w' ⟨s0, s1, s2, s3⟩
       go_simp
       with_reducible rfl
      rotate_left
      ·simp only [Act.put, List.setIfInBounds_toArray, List.set_cons_zero, List.set_cons_succ, i64_w, i32_w]
       rfl
      refine pure_ (i := 2) (N := some 38) (v := ?_) (a' := ?_) #[true, true, true, false, false, true, false, false, false] rfl rfl (any_of HT_.out (by kernel_rfl)) (fun _ _ _ h => h) (Or.inl ⟨by rfl, ?_⟩) ?_ ?_
      rotate_left
      ·intro w'
       go_simp
       with_reducible rfl
      rotate_left
      ·simp only [Act.put, List.setIfInBounds_toArray, List.set_cons_zero, List.set_cons_succ, i64_w, i32_w]
       rfl
      refine pure_ (i := 3) (N := some 39) (v := ?_) (a' := ?_) #[true, true, true, true, false, true, false, false, false] rfl rfl (any_of HT_.out (by kernel_rfl)) (fun _ _ _ h => h) (Or.inl ⟨by rfl, ?_⟩) ?_ ?_
      rotate_left
      ·intro w'
       go_simp
       with_reducible rfl
      rotate_left
      ·simp only [Act.put, List.setIfInBounds_toArray, List.set_cons_zero, List.set_cons_succ, i64_w, i32_w]
       rfl
      refine take_ (i := 6) (N := some 42) (v := ?_) (a' := ?_) #[true, true, true, true, false, true, true, false, false] rfl rfl (take_ofW HT_.out HW_.out (by kernel_rfl)) (fun _ _ _ h => h) (Or.inl ⟨by rfl, ?_⟩) hHeld ?_ ?_
      rotate_left
      ·rintro w' ⟨s0, s1, s2, s3⟩
       go_simp
       with_reducible rfl
      rotate_left
      ·simp only [Act.put, List.setIfInBounds_toArray, List.set_cons_zero, List.set_cons_succ, i64_w, i32_w]
       rfl
      refine one_ (i := 4) (N := some 40) #[true, true, true, true, true, true, true, false, false] rfl rfl (one_of HT_.out (by kernel_rfl)) (by decide) (fun K hK => ?_)
      refine goes_ Tryd.func90 (by kernel_rfl) rfl #[.int .u64 (IntKind.u64.wrap ((a0_3.size : Int)))] (by rfl) rfl rfl (by (try simp only [List.map_toArray, List.map_cons, List.map_nil]); first | done | rfl | (simp only [List.length_drop, List.length_take]; rfl)) ?_
      with_reducible refine (vellumref04_varint.calls k (IntKind.u64.wrap ((a0_3.size : Int))) t685 _ A26.out).mono ?_
      rintro e w31 ⟨v686, rfl, ho0, hb⟩
      refine ⟨_, rfl, ?_⟩
      have n0_ := Aside0.mk (Kd.R_lower ho0 (below_size (by repeat (first | (with_reducible first | exact HB.out | apply below_alloc | apply pw_below_drewN | apply below_drew1 | refine below_set ?_ GE671.out) | exact HB.out))))
      have n1_ := Aside0.mk (blk_below (g := gb671) (o := .cells #[.int .i64 a0_0, .int .i64 a0_1, .float .f64 a0_2, .string a0_3] 50 (0, 0)) (by (with_reducible repeat (first | refine blk_drewN ?_ _ | refine blk_drew ?_ | refine blk_alloc ?_ _)); exact BK671.out) hb)
      have n2_ := Aside0.mk (below_step (by repeat (first | (with_reducible first | exact HB.out | apply below_alloc | apply pw_below_drewN | apply below_drew1 | refine below_set ?_ GE671.out) | exact HB.out)) hb)
      clear BK671
      clear HB
      have HO687 := n0_
      have BK671 := n1_
      have HB := n2_
      clear n0_ n1_ n2_
      (try clear hb)
      (try clear hb2)
      (try clear hk)
      (try clear hi)
      (try clear ho0)
      refine hK.out _ _ ⟨(blk_cell BK671.out 0).trans rfl, (blk_cell BK671.out 1).trans rfl, (blk_cell BK671.out 2).trans rfl, (blk_cell BK671.out 3).trans rfl⟩ (fun hHeld => ?_)
      clear hK K
      refine norm_ (a' := ?_) ?_ ?_
      rotate_left
      ·show Act.put _ (some 40) _ = _
       simp only [Act.put, List.setIfInBounds_toArray, List.set_cons_zero, List.set_cons_succ, i64_w, i32_w]
       rfl
      refine one_ (i := 7) (N := some 43) #[true, true, true, true, true, true, true, true, false] rfl rfl (one_of HT_.out (by kernel_rfl)) (by decide) (fun K hK => ?_)
      refine Kd.R_append_str_step (w0 := w) w.heap.size (by rfl) (.tmp 40) _ 80 9 5 rfl Tryd.underlying80 Tryd.underlying9 info5 v686 t685 a0_3 (fun _ => True) rfl rfl ?aF ?aO ?aB ?aS ?aL ?_
      (case aB => exact (by repeat (first | (with_reducible first | exact HB.out | apply below_alloc | apply pw_below_drewN | apply below_drew1 | refine below_set ?_ GE671.out) | exact HB.out)))
      (case aF => exact (fun _ _ => trivial))
      (case aO => exact (by (with_reducible repeat (first | apply Kd.R_alloc | apply Kd.R_drewN | apply Kd.R_drew)); exact HO687.out))
      (case aS => exact (below_size (by repeat (first | (with_reducible first | exact HB.out | apply below_alloc | apply pw_below_drewN | apply below_drew1 | refine below_set ?_ GE671.out) | exact HB.out))))
      (case aL => have := LMc27.out; omega)
      intro v689 w32 ho hb hg hat
      rw [← Ny688.out] at ho
      have n0_ := Aside0.mk (blk_grown (g := gb671) (o := .cells #[.int .i64 a0_0, .int .i64 a0_1, .float .f64 a0_2, .string a0_3] 50 (0, 0)) (by (with_reducible repeat (first | refine blk_drewN ?_ _ | refine blk_drew ?_ | refine blk_alloc ?_ _)); exact BK671.out) hg (Kd.R_ne HO687.out BK671.out (by decide)))
      have n1_ := Aside0.mk (hb)
      have n2_ := Aside0.mk (ho)
      clear BK671
      clear HB
      clear HO687
      have BK671 := n0_
      have HB := n1_
      have HO690 := n2_
      clear n0_ n1_ n2_
      clear ho hb hg hat
      refine hK.out _ _ ⟨(blk_cell BK671.out 0).trans rfl, (blk_cell BK671.out 1).trans rfl, (blk_cell BK671.out 2).trans rfl, (blk_cell BK671.out 3).trans rfl⟩ (fun hHeld => ?_)
      clear hK K
      refine norm_ (a' := ?_) ?_ ?_
      rotate_left
      ·show Act.put _ (some 43) _ = _
       simp only [Act.put, List.setIfInBounds_toArray, List.set_cons_zero, List.set_cons_succ, i64_w, i32_w]
       rfl
      refine pure_ (i := 8) (N := some 2) (v := ?_) (a' := ?_) #[true, true, true, true, true, true, true, true, true] rfl rfl (any_of HT_.out (by kernel_rfl)) (fun _ _ _ h => h) (Or.inl ⟨by rfl, ?_⟩) ?_ ?_
      rotate_left
      ·intro w'
       go_simp
       with_reducible rfl
      rotate_left
      ·simp only [Act.put, List.setIfInBounds_toArray, List.set_cons_zero, List.set_cons_succ, i64_w, i32_w]
       rfl
      refine done_ (done_of HT_.out (by kernel_rfl)) ?_
      try go_wp2
      go_ret
      exact ⟨_, by first | rfl | (simp [errW_none, errW_some] <;> rfl) | (simp [*, errW_none, errW_some] <;> rfl), by (with_reducible repeat (first | apply Kd.R_alloc | apply Kd.R_drewN | apply Kd.R_drew)); exact HO690.out, by repeat (first | (with_reducible first | exact HB.out | apply below_alloc | apply pw_below_drewN | apply below_drew1 | refine below_set ?_ GE671.out) | exact HB.out)⟩
     ·rw [if_neg c27] at H
      exact absurd H (by simp)
    ·rw [if_neg c25] at H
     have c25b0 : (a0_0 == 5) = false := beq_eq_false_iff_ne.mpr c25
     have c25b1 : (a0_0 != 5) = true := bne_iff_ne.mpr c25
     obtain rfl := Option.some.inj H
     go_enter Tryd.func122, Tryd.ntmps122
     go_wp2_with (first | ((with_reducible refine gate_dst (N := 1) rfl ?_); refine box_event ?hg (N := 1) ?hd (cs := #[.int .i64 a0_0, .int .i64 a0_1, .float .f64 a0_2, .string a0_3]) (t := 50) ?hr ?_; (case hd => rfl); (case hg => rfl); (case hr => first | (go_simp; done) | (go_simp; rfl)); intro gb671 hg w33 hbox hb; have n0_ := Aside0.mk (below_step (by repeat (first | (with_reducible first | exact HB.out | apply below_alloc | apply pw_below_drewN | apply below_drew1) | exact HB.out)) hb); have n1_ := Aside0.mk (hbox); have n2_ := Aside0.mk ((by rw [hg]; exact (below_size (by repeat (first | (with_reducible first | exact HB.out | apply below_alloc | apply pw_below_drewN | apply below_drew1) | exact HB.out))) : w.heap.size ≤ gb671)); have n3_ := n2_; clear HB; have HB := n0_; have BK671 := n1_; have GW671 := n2_; have GE671 := n3_; clear n0_ n1_ n2_ n3_; clear hb hbox hg; have hcz34_0 : w33.cell? ⟨gb671, 0, none⟩ = some (.int .i64 a0_0) := (blk_cell BK671.out 0).trans rfl; have hcz34_1 : w33.cell? ⟨gb671, 1, none⟩ = some (.int .i64 a0_1) := (blk_cell BK671.out 1).trans rfl; have hcz34_2 : w33.cell? ⟨gb671, 2, none⟩ = some (.float .f64 a0_2) := (blk_cell BK671.out 2).trans rfl; have hcz34_3 : w33.cell? ⟨gb671, 3, none⟩ = some (.string a0_3) := (blk_cell BK671.out 3).trans rfl; have hfz34_0 := blk_frozen BK671.out 0; have hfz34_1 := blk_frozen BK671.out 1; have hfz34_2 := blk_frozen BK671.out 2; have hfz34_3 := blk_frozen BK671.out 3))
     go_ret
     exact ⟨_, by first | rfl | (simp [errW_none, errW_some] <;> rfl) | (simp [*, errW_none, errW_some] <;> rfl), by first | exact Kd.R_nil _ _ _ _ _ | exact Kd.N_nil _ _ _ _ _ | exact Kd.V_nil _ _ _ _ _ | exact Kd.Q_nil _ _ _ _ _ | exact Kd.S_nil _ _ _ _ _, by repeat (first | (with_reducible first | exact HB.out | apply below_alloc | apply pw_below_drewN | apply below_drew1 | refine below_set ?_ GE671.out) | exact HB.out)⟩
end Go.Proofs.YtpiifdbicibelaaDoor.PA
end
section
namespace Go.Proofs.YtpiifdbicibelaaDoor.PA
open Go.RowKit Go.Proofs.YtpiifdbicibelaaDoorW.PrintWords Go.Proofs.YtpiifdbicibelaaDoorW.PrintLast Go.Proofs.YtpiifdbicibelaaDoorW.PrintMore
attribute [local go_sem] max2_int min2_int max_two min_two max_three min_three max_four min_four   -- for this text's walks alone
set_option linter.unusedVariables false
set_option linter.unusedSimpArgs false
mutual
def vellumref04_bytesOf.l0 : Nat → List (S50) → List Int → Int → Option (List Int)
 | 0, _, _, _ => none
 | k + 1, x0, x3, x4 => if x4 < (x0.length : Int) then (if 0 ≤ (wrap64 (Int.tdiv x4 4)) then (if (wrap64 (Int.tdiv x4 4)) < (x3.length : Int) then (if 0 ≤ x4 then ((vellumref04_pair.f ((rd_T50 x0 x4).f0) ((rd_T50 x0 x4).f1) ((rd_T50 x0 x4).f2) ((rd_T50 x0 x4).f3)).bind fun t696 => (if 0 ≤ (IntKind.u64.wrap (wrap64 ((Int.tmod x4 4) * 2))) then (vellumref04_bytesOf.l0 k x0 (x3.set ((wrap64 (Int.tdiv x4 4)) : Int).toNat (Go.bits .or .u8 (rd x3 (wrap64 (Int.tdiv x4 4))) (shl .u8 t696 (IntKind.u64.wrap (wrap64 ((Int.tmod x4 4) * 2)))))) (wrap64 (x4 + 1))) else (none))) else (none)) else (none)) else (none)) else (vellumref04_bytesOf.l1 k x0 x3 0)
def vellumref04_bytesOf.l1 : Nat → List (S50) → List Int → Int → Option (List Int)
 | 0, _, _, _ => none
 | k + 1, x0, x3, x5 => if x5 < (x0.length : Int) then (if 0 ≤ x5 then ((vellumref04_told.f k ((rd_T50 x0 x5).f0) ((rd_T50 x0 x5).f1) ((rd_T50 x0 x5).f2) ((rd_T50 x0 x5).f3)).bind fun t699 => (if x3.length + t699.length < 140737488355328 then (vellumref04_bytesOf.l1 k x0 (x3 ++ t699) (wrap64 (x5 + 1))) else (none))) else (none)) else (some x3)
end
def vellumref04_bytesOf.f (k : Nat) (l0 : List (S50)) : Option (List Int) := if 0 ≤ (wrap64 (Int.tdiv (wrap64 ((l0.length : Int) + 3)) 4)) then (if (wrap64 (Int.tdiv (wrap64 ((l0.length : Int) + 3)) 4) : Int).toNat ≤ 281474976710656 then (vellumref04_bytesOf.l0 k l0 (List.replicate (wrap64 (Int.tdiv (wrap64 ((l0.length : Int) + 3)) 4) : Int).toNat 0) 0) else (none)) else (none)
def vellumref04_bytesOf.T5 : Bool × List (List Nat × List Nat) := (true, [([], []), ([], []), ([1], [1]), ([], []), ([], []), ([4], [4]), ([3, 5], [3, 5]), ([6], [6]), ([], []), ([], []), ([8, 9], [8, 9]), ([10], [10]), ([11], [11]), ([], []), ([13], [13]), ([14], [14]), ([15], [15]), ([12, 16], [12, 16]), ([7, 17], [7, 17]), ([0, 2, 0, 1, 2, 3, 4, 5, 6, 7, 8, 9, 10, 11, 12, 13, 14, 15, 16, 17, 18], [0, 2]), ([19, 18, 12, 0, 1, 2, 3, 4, 5, 6, 7, 8, 9, 10, 11, 12, 13, 14, 15, 16, 17, 18], [18, 19])])
def vellumref04_bytesOf.B5 : List Nat := [0, 0, 2, 0, 0, 16, 56, 120, 0, 0, 768, 1792, 3840, 0, 8192, 24576, 57344, 130816, 262136, 524287, 1048575]
theorem vellumref04_bytesOf.tab5 : rtab .any (opsOf Tryd.f86 5) = vellumref04_bytesOf.T5 := by kernel_rfl
theorem vellumref04_bytesOf.bits5 : waitsOk vellumref04_bytesOf.T5.2 vellumref04_bytesOf.B5 = true := by kernel_rfl
set_option maxHeartbeats 8000000 in
set_option maxRecDepth 100000 in
theorem vellumref04_bytesOf.calls (k : Nat) (A0 : Option Addr) (c0 : Nat) (l0 : List (S50)) (r : List Int) (w : World) (hr0 : Kd.C k50 w A0 l0.length l0) (hc0 : l0.length ≤ c0) (h : vellumref04_bytesOf.f k l0 = some r) :
  Calls Tryd.prog 86 #[.slice A0 l0.length c0] w fun e w' => ∃ v0_ : Value, e = .returned (v0_) ∧ Kd.R (Kd.int .u8) 5 w' w.heap.size (fun _ => True) v0_ r ∧ Below w.heap.size w w' := by
 have hu50 := Tryd.underlying50
 have HR0 := Aside0.mk hr0
 have HC0 := Aside0.mk hc0
 clear hr0 hc0
 have HB := Aside0.mk (Below.refl w.heap.size w)
 have H : (if 0 ≤ (wrap64 (Int.tdiv (wrap64 ((l0.length : Int) + 3)) 4)) then (if (wrap64 (Int.tdiv (wrap64 ((l0.length : Int) + 3)) 4) : Int).toNat ≤ 281474976710656 then (vellumref04_bytesOf.l0 k l0 (List.replicate (wrap64 (Int.tdiv (wrap64 ((l0.length : Int) + 3)) 4) : Int).toNat 0) 0) else (none)) else (none)) = some r := h
 clear h
 obtain ⟨ji2, hji2⟩ : ∃ j_ : Int, (wrap64 (Int.tdiv (wrap64 ((l0.length : Int) + 3)) 4)) = j_ := ⟨_, rfl⟩
 replace H : (if 0 ≤ (ji2) then (if (ji2 : Int).toNat ≤ 281474976710656 then (vellumref04_bytesOf.l0 k l0 (List.replicate (ji2 : Int).toNat 0) 0) else (none)) else (none)) = some r := by first | (rw [hji2] at H; exact H) | (simp only [hji2] at H ⊢; exact H)
 have hji2w : (IntKind.i64.wrap (Int.tdiv (wrap64 ((l0.length : Int) + 3)) 4)) = ji2 := (i64_w _).trans hji2
 by_cases c3 : 0 ≤ (ji2)
 ·rw [if_pos c3] at H
  have c3b0 := eq_true c3
  have c3b1 : decide (0 ≤ (ji2)) = true := decide_eq_true c3
  clear c3
  by_cases c4 : (ji2 : Int).toNat ≤ 281474976710656
  ·rw [if_pos c4] at H
   have c4b0 := eq_true c4
   have c4b1 : decide ((ji2 : Int).toNat ≤ 281474976710656) = true := decide_eq_true c4
   clear c4
   obtain ⟨y691, hy691⟩ : ∃ y_ : List Int, y_ = (List.replicate (ji2 : Int).toNat 0) := ⟨_, rfl⟩
   replace H : (vellumref04_bytesOf.l0 k l0 y691 0) = some r := by first | (rw [hy691]; with_reducible exact H) | (have H2_ := (Option.bind_some _ _).symm.trans H; rw [hy691]; with_reducible exact H2_) | (have H2_ := (Option.bind_some _ _).symm.trans H; with_reducible exact H2_) | with_reducible exact H | (rw [hy691]; exact H) | exact H
   have Ny691 := Aside0.mk hy691
   clear hy691
   have H' := Aside0.mk H
   clear H
   go_enter Tryd.func86, Tryd.ntmps86
   go_wp2_with (first | ((with_reducible refine gate_dst (N := 10) rfl ?_); refine Kd.R_make (Kd.int .u8) _ 5 rfl (N := 10) rfl 80 _ _ rfl ji2 rfl rfl Tryd.underlying80 (.int .u8 0) 1 info5 rfl (by decide) (by omega) 0 (ok := fun _ => True) (okp := fun _ => True) rfl (fun _ hk => hk) trivial (of_decide_eq_true (by first | (with_reducible assumption) | assumption)) (Nat.le_trans (Nat.mul_le_mul_right _ (of_decide_eq_true (by first | (with_reducible assumption) | assumption) : ji2.toNat ≤ 281474976710656)) (by omega)) (Below.refl _ _) (Nat.le_refl _) ?_; intro v692 w5 ho6 hb hg_ hnew_; clear hg_ hnew_; (first | rw [← Ny691.out] at ho6 | (simp only [Int.reduceToNat] at ho6; rw [← Ny691.out] at ho6)); have n0_ := Aside0.mk (Kd.R_lower ho6 (below_size (by repeat (first | (with_reducible first | exact HB.out | apply below_alloc | apply pw_below_drewN | apply below_drew1) | exact HB.out)))); have n1_ := Aside0.mk (below_step (by repeat (first | (with_reducible first | exact HB.out | apply below_alloc | apply pw_below_drewN | apply below_drew1) | exact HB.out)) hb); clear HB; have HO693 := n0_; have HB := n1_; clear n0_ n1_; clear hb ho6))
   go_loopg [4] k (fun kq v4 w' => ∃ (x3_1 : List Int) (x4_1 : Int), v4 = .int .i64 x4_1 ∧ Aside0 (vellumref04_bytesOf.l0 kq l0 x3_1 x4_1 = some r) ∧ Aside0 (kq ≤ k) ∧ Aside0 (Kd.R (Kd.int .u8) 5 w' w.heap.size (fun _ => True) v692 x3_1) ∧ Aside0 (Below w.heap.size w w'))
   case atStart => exact ⟨(y691), (0), (by first | rfl | (simp; done) | (simp [*]; done) | (simp [bool_ne_nil]; done) | (simp; exact bool_ne_nil _)), H', ⟨Nat.le_refl _⟩, ⟨by (with_reducible repeat (first | apply Kd.R_alloc | apply Kd.R_drewN | apply Kd.R_drew)); exact HO693.out⟩, ⟨by repeat (first | (with_reducible first | exact HB.out | apply below_alloc | apply pw_below_drewN | apply below_drew1) | exact HB.out)⟩⟩
   case round =>
    clear H'
    (try clear p2); (try clear c3); (try clear c3b0); (try clear c3b1); (try clear c4); (try clear c4b0); (try clear c4b1); (try clear p6)
    obtain ⟨x3_1, x4_1, rfl, HA, HK1, HO_3, HB⟩ := hrel
    cases gk with
    | zero => exact absurd HA.out (by simp [vellumref04_bytesOf.l0])
    | succ k1 =>
     have H := HA.out
     clear HA
     simp only [vellumref04_bytesOf.l0] at H
     by_cases c7 : x4_1 < (l0.length : Int)
     ·rw [if_pos c7] at H
      have c7b0 : decide (x4_1 < (l0.length : Int)) = true := decide_eq_true c7
      clear c7
      obtain ⟨ji8, hji8⟩ : ∃ j_ : Int, (wrap64 (Int.tdiv x4_1 4)) = j_ := ⟨_, rfl⟩
      replace H : (if 0 ≤ (ji8) then (if (ji8) < (x3_1.length : Int) then (if 0 ≤ x4_1 then ((vellumref04_pair.f ((rd_T50 l0 x4_1).f0) ((rd_T50 l0 x4_1).f1) ((rd_T50 l0 x4_1).f2) ((rd_T50 l0 x4_1).f3)).bind fun t696 => (if 0 ≤ (IntKind.u64.wrap (wrap64 ((Int.tmod x4_1 4) * 2))) then (vellumref04_bytesOf.l0 k1 l0 (x3_1.set ((ji8) : Int).toNat (Go.bits .or .u8 (rd x3_1 (ji8)) (shl .u8 t696 (IntKind.u64.wrap (wrap64 ((Int.tmod x4_1 4) * 2)))))) (wrap64 (x4_1 + 1))) else (none))) else (none)) else (none)) else (none)) = some r := by first | (rw [hji8] at H; exact H) | (simp only [hji8] at H ⊢; exact H)
      have hji8w : (IntKind.i64.wrap (Int.tdiv x4_1 4)) = ji8 := (i64_w _).trans hji8
      by_cases c9 : 0 ≤ (ji8)
      ·rw [if_pos c9] at H
       have c9b0 : decide (0 ≤ (ji8)) = true := decide_eq_true c9
       clear c9
       by_cases c10 : (ji8) < (x3_1.length : Int)
       ·rw [if_pos c10] at H
        have c10b0 : decide ((ji8) < (x3_1.length : Int)) = true := decide_eq_true c10
        clear c10
        by_cases c11 : 0 ≤ x4_1
        ·rw [if_pos c11] at H
         have c11b0 : decide (0 ≤ x4_1) = true := decide_eq_true c11
         clear c11
         replace H := Option.bind_eq_some_iff.mp H
         obtain ⟨t696, A120, H⟩ := H
         replace H : (if 0 ≤ (IntKind.u64.wrap (wrap64 ((Int.tmod x4_1 4) * 2))) then (vellumref04_bytesOf.l0 k1 l0 (x3_1.set ((ji8) : Int).toNat (Go.bits .or .u8 (rd x3_1 (ji8)) (shl .u8 t696 (IntKind.u64.wrap (wrap64 ((Int.tmod x4_1 4) * 2)))))) (wrap64 (x4_1 + 1))) else (none)) = some r := H
         have A12 := Aside0.mk A120
         clear A120
         obtain ⟨ji13, hji13⟩ : ∃ j_ : Int, (IntKind.u64.wrap (wrap64 ((Int.tmod x4_1 4) * 2))) = j_ := ⟨_, rfl⟩
         replace H : (if 0 ≤ (ji13) then (vellumref04_bytesOf.l0 k1 l0 (x3_1.set ((ji8) : Int).toNat (Go.bits .or .u8 (rd x3_1 (ji8)) (shl .u8 t696 (ji13)))) (wrap64 (x4_1 + 1))) else (none)) = some r := by first | (rw [hji13] at H; exact H) | (simp only [hji13] at H ⊢; exact H)
         (try rw [hji13] at A12)
         by_cases c14 : 0 ≤ (ji13)
         ·rw [if_pos c14] at H
          have c14b0 := eq_true c14
          have c14b1 : decide (0 ≤ (ji13)) = true := decide_eq_true c14
          clear c14
          obtain ⟨ji15, hji15⟩ : ∃ j_ : Int, (shl .u8 t696 (ji13)) = j_ := ⟨_, rfl⟩
          replace H : (vellumref04_bytesOf.l0 k1 l0 (x3_1.set ((ji8) : Int).toNat (Go.bits .or .u8 (rd x3_1 (ji8)) (ji15))) (wrap64 (x4_1 + 1))) = some r := by first | (rw [hji15] at H; exact H) | (simp only [hji15] at H ⊢; exact H)
          (try rw [hji15] at A12)
          have hji15_ : (IntKind.u8.wrap (t696 * 2 ^ min (ji13).toNat 8)) = ji15 := hji15
          have hji15z : (ji13) ≤ 8 → (IntKind.u8.wrap (t696 * 2 ^ (ji13).toNat)) = ji15 := shl_small hji15
          obtain ⟨y697, hy697⟩ : ∃ y_ : List Int, y_ = (x3_1.set ((ji8) : Int).toNat (Go.bits .or .u8 (rd x3_1 (ji8)) (ji15))) := ⟨_, rfl⟩
          replace H : (vellumref04_bytesOf.l0 k1 l0 y697 (wrap64 (x4_1 + 1))) = some r := by first | (rw [hy697]; with_reducible exact H) | (have H2_ := (Option.bind_some _ _).symm.trans H; rw [hy697]; with_reducible exact H2_) | (have H2_ := (Option.bind_some _ _).symm.trans H; with_reducible exact H2_) | with_reducible exact H | (rw [hy697]; exact H) | exact H
          have Ny697 := Aside0.mk hy697
          clear hy697
          have H' := Aside0.mk H
          clear H
          try go_wp2
          have n0_ := Aside0.mk (Kd.R_drew HO_3.out)
          have n1_ := Aside0.mk (below_drew1 HB.out)
          clear HO_3
          clear HB
          have HO_3 := n0_
          have HB := n1_
          clear n0_ n1_
          obtain ⟨Ao18, co18, eo18⟩ := Kd.R_slice HO_3.out
          (first | subst eo18 | (injection eo18 with f1_ f2_ f3_; have f4_ := f1_.symm; have f5_ := f3_.symm; clear f1_ f2_ f3_; subst f4_; subst f5_))
          have p694 : 0 ≤ ((ji8) : Int) := of_decide_eq_true (by first | (with_reducible assumption) | assumption)
          have q694 : (ji8) < (x3_1.length : Int) := of_decide_eq_true (by first | (with_reducible assumption) | assumption)
          obtain ⟨ad694, e694, hx694_0⟩ := Kd.at_int (Kd.R_reads' HO_3.out).2.2 (ji8) p694 q694
          cases e694
          replace p694 := eq_true p694
          replace q694 := eq_true q694
          have p695 : 0 ≤ (x4_1 : Int) := of_decide_eq_true (by first | (with_reducible assumption) | assumption)
          have q695 : x4_1 < (l0.length : Int) := of_decide_eq_true (by first | (with_reducible assumption) | assumption)
          obtain ⟨ad695, e695, hx695_0, hx695_1, hx695_2, hx695_3⟩ := at_T50 HR0.out x4_1 p695 q695
          have hw695_3 := hx695_3
          have hw695_2 := hx695_2
          have hw695_1 := hx695_1
          have hw695_0 := hx695_0
          cases e695
          replace hx695_0 := (HB.out.cell (World.block_lt_of_cell? w _ hx695_0)).trans hx695_0
          replace hx695_1 := (HB.out.cell (World.block_lt_of_cell? w _ hx695_1)).trans hx695_1
          replace hx695_2 := (HB.out.cell (World.block_lt_of_cell? w _ hx695_2)).trans hx695_2
          replace hx695_3 := (HB.out.cell (World.block_lt_of_cell? w _ hx695_3)).trans hx695_3
          replace p695 := eq_true p695
          replace q695 := eq_true q695
          refine start_ (n := 21) (S := fun w' => w'.cell? (ad694.add ((ji8)).toNat) = some (.int .u8 (rd x3_1 (ji8))) ∧ w'.cell? (ad695.add ((x4_1).toNat * 4)) = some (.int .i64 ((rd_T50 l0 x4_1).f0)) ∧ w'.cell? ⟨(ad695.add ((x4_1).toNat * 4)).block, (ad695.add ((x4_1).toNat * 4)).off + 1, none⟩ = some (.int .i64 ((rd_T50 l0 x4_1).f1)) ∧ w'.cell? ⟨(ad695.add ((x4_1).toNat * 4)).block, (ad695.add ((x4_1).toNat * 4)).off + 2, none⟩ = some (.float .f64 ((rd_T50 l0 x4_1).f2)) ∧ w'.cell? ⟨(ad695.add ((x4_1).toNat * 4)).block, (ad695.add ((x4_1).toNat * 4)).off + 3, none⟩ = some (.string ((rd_T50 l0 x4_1).f3))) (ds := [20]) #[false, false, false, false, false, false, false, false, false, false, false, false, false, false, false, false, false, false, false, false, false] (by kernel_rfl) rfl rfl ⟨hx694_0, ((HB.out.cell (World.block_lt_of_cell? w _ hw695_0)).trans hw695_0), ((HB.out.cell (World.block_lt_of_cell? w _ hw695_1)).trans hw695_1), ((HB.out.cell (World.block_lt_of_cell? w _ hw695_2)).trans hw695_2), ((HB.out.cell (World.block_lt_of_cell? w _ hw695_3)).trans hw695_3)⟩ (fun hHeld => ?_); refine with_tabW vellumref04_bytesOf.tab5 vellumref04_bytesOf.bits5 (fun HT_ HW_ => ?_)
          generalize wr.drew = w17 at HO_3 HB hx694_0 hx695_0 hx695_1 hx695_2 hx695_3 hHeld ⊢
          refine pure_ (i := 0) (N := some 17) (v := ?_) (a' := ?_) #[true, false, false, false, false, false, false, false, false, false, false, false, false, false, false, false, false, false, false, false, false] rfl rfl (any_of HT_.out (by kernel_rfl)) (fun _ _ _ h => h) (Or.inl ⟨by rfl, ?_⟩) ?_ ?_
          rotate_left
          ·intro w'
           go_simp
           with_reducible rfl
          rotate_left
          ·simp only [Act.put, List.setIfInBounds_toArray, List.set_cons_zero, List.set_cons_succ, i64_w, i32_w]
           rfl
          refine pure_ (i := 1) (N := some 18) (v := ?_) (a' := ?_) #[true, true, false, false, false, false, false, false, false, false, false, false, false, false, false, false, false, false, false, false, false] rfl rfl (any_of HT_.out (by kernel_rfl)) (fun _ _ _ h => h) (Or.inl ⟨by rfl, ?_⟩) ?_ ?_
          rotate_left
          ·intro w'
           go_simp
           with_reducible rfl
          rotate_left
          ·simp only [Act.put, List.setIfInBounds_toArray, List.set_cons_zero, List.set_cons_succ, i64_w, i32_w]
           rfl
          refine pure_ (i := 2) (N := some 19) (v := ?_) (a' := ?_) #[true, true, true, false, false, false, false, false, false, false, false, false, false, false, false, false, false, false, false, false, false] rfl rfl (any_of HT_.out (by kernel_rfl)) (fun _ _ _ h => h) (Or.inl ⟨by rfl, ?_⟩) ?_ ?_
          rotate_left
          ·intro w'
           go_simp
           with_reducible rfl
          rotate_left
          ·simp only [Act.put, List.setIfInBounds_toArray, List.set_cons_zero, List.set_cons_succ, i64_w, i32_w]
           rfl
          refine pure_ (i := 3) (N := some 20) (v := ?_) (a' := ?_) #[true, true, true, true, false, false, false, false, false, false, false, false, false, false, false, false, false, false, false, false, false] rfl rfl (any_of HT_.out (by kernel_rfl)) (fun _ _ _ h => h) (Or.inl ⟨by rfl, ?_⟩) ?_ ?_
          rotate_left
          ·intro w'
           go_simp
           with_reducible rfl
          rotate_left
          ·simp only [Act.put, List.setIfInBounds_toArray, List.set_cons_zero, List.set_cons_succ, i64_w, i32_w]
           rfl
          refine pure_ (i := 4) (N := some 21) (v := ?_) (a' := ?_) #[true, true, true, true, true, false, false, false, false, false, false, false, false, false, false, false, false, false, false, false, false] rfl rfl (any_of HT_.out (by kernel_rfl)) (fun _ _ _ h => h) (Or.inl ⟨by rfl, ?_⟩) ?_ ?_
          rotate_left
          ·intro w'
           go_simp
           with_reducible rfl
          rotate_left
          ·simp only [Act.put, List.setIfInBounds_toArray, List.set_cons_zero, List.set_cons_succ, i64_w, i32_w]
           rfl
          refine pure_ (i := 5) (N := some 22) (v := ?_) (a' := ?_) #[true, true, true, true, true, true, false, false, false, false, false, false, false, false, false, false, false, false, false, false, false] rfl rfl (any_of HT_.out (by kernel_rfl)) (fun _ _ _ h => h) (Or.inl ⟨by rfl, ?_⟩) ?_ ?_
          rotate_left
          ·intro w'
           go_simp
           with_reducible rfl
          rotate_left
          ·simp only [Act.put, List.setIfInBounds_toArray, List.set_cons_zero, List.set_cons_succ, i64_w, i32_w]
           rfl
          refine pure_ (i := 6) (N := some 23) (v := ?_) (a' := ?_) #[true, true, true, true, true, true, true, false, false, false, false, false, false, false, false, false, false, false, false, false, false] rfl rfl (any_of HT_.out (by kernel_rfl)) (fun _ _ _ h => h) (Or.inl ⟨by rfl, ?_⟩) ?_ ?_
          rotate_left
          ·intro w'
           go_simp
           with_reducible rfl
          rotate_left
          ·simp only [Act.put, List.setIfInBounds_toArray, List.set_cons_zero, List.set_cons_succ, i64_w, i32_w]
           rfl
          refine pure_ (i := 8) (N := some 25) (v := ?_) (a' := ?_) #[true, true, true, true, true, true, true, false, true, false, false, false, false, false, false, false, false, false, false, false, false] rfl rfl (any_of HT_.out (by kernel_rfl)) (fun _ _ _ h => h) (Or.inl ⟨by rfl, ?_⟩) ?_ ?_
          rotate_left
          ·intro w'
           go_simp
           with_reducible rfl
          rotate_left
          ·simp only [Act.put, List.setIfInBounds_toArray, List.set_cons_zero, List.set_cons_succ, i64_w, i32_w]
           rfl
          refine pure_ (i := 9) (N := some 26) (v := ?_) (a' := ?_) #[true, true, true, true, true, true, true, false, true, true, false, false, false, false, false, false, false, false, false, false, false] rfl rfl (any_of HT_.out (by kernel_rfl)) (fun _ _ _ h => h) (Or.inl ⟨by rfl, ?_⟩) ?_ ?_
          rotate_left
          ·intro w'
           go_simp
           with_reducible rfl
          rotate_left
          ·simp only [Act.put, List.setIfInBounds_toArray, List.set_cons_zero, List.set_cons_succ, i64_w, i32_w]
           rfl
          refine pure_ (i := 10) (N := some 27) (v := ?_) (a' := ?_) #[true, true, true, true, true, true, true, false, true, true, true, false, false, false, false, false, false, false, false, false, false] rfl rfl (any_of HT_.out (by kernel_rfl)) (fun _ _ _ h => h) (Or.inl ⟨by rfl, ?_⟩) ?_ ?_
          rotate_left
          ·intro w'
           go_simp
           with_reducible rfl
          rotate_left
          ·simp only [Act.put, List.setIfInBounds_toArray, List.set_cons_zero, List.set_cons_succ, i64_w, i32_w]
           rfl
          refine pure_ (i := 13) (N := some 30) (v := ?_) (a' := ?_) #[true, true, true, true, true, true, true, false, true, true, true, false, false, true, false, false, false, false, false, false, false] rfl rfl (any_of HT_.out (by kernel_rfl)) (fun _ _ _ h => h) (Or.inl ⟨by rfl, ?_⟩) ?_ ?_
          rotate_left
          ·intro w'
           go_simp
           with_reducible rfl
          rotate_left
          ·simp only [Act.put, List.setIfInBounds_toArray, List.set_cons_zero, List.set_cons_succ, i64_w, i32_w]
           rfl
          refine pure_ (i := 14) (N := some 31) (v := ?_) (a' := ?_) #[true, true, true, true, true, true, true, false, true, true, true, false, false, true, true, false, false, false, false, false, false] rfl rfl (any_of HT_.out (by kernel_rfl)) (fun _ _ _ h => h) (Or.inl ⟨by rfl, ?_⟩) ?_ ?_
          rotate_left
          ·intro w'
           go_simp
           with_reducible rfl
          rotate_left
          ·simp only [Act.put, List.setIfInBounds_toArray, List.set_cons_zero, List.set_cons_succ, i64_w, i32_w]
           rfl
          refine pure_ (i := 15) (N := some 32) (v := ?_) (a' := ?_) #[true, true, true, true, true, true, true, false, true, true, true, false, false, true, true, true, false, false, false, false, false] rfl rfl (any_of HT_.out (by kernel_rfl)) (fun _ _ _ h => h) (Or.inl ⟨by rfl, ?_⟩) ?_ ?_
          rotate_left
          ·intro w'
           go_simp
           with_reducible rfl
          rotate_left
          ·simp only [Act.put, List.setIfInBounds_toArray, List.set_cons_zero, List.set_cons_succ, i64_w, i32_w]
           rfl
          refine pure_ (i := 16) (N := some 33) (v := ?_) (a' := ?_) #[true, true, true, true, true, true, true, false, true, true, true, false, false, true, true, true, true, false, false, false, false] rfl rfl (any_of HT_.out (by kernel_rfl)) (fun _ _ _ h => h) (Or.inl ⟨by rfl, ?_⟩) ?_ ?_
          rotate_left
          ·intro w'
           go_simp
           with_reducible rfl
          rotate_left
          ·simp only [Act.put, List.setIfInBounds_toArray, List.set_cons_zero, List.set_cons_succ, i64_w, i32_w]
           rfl
          refine take_ (i := 7) (N := some 24) (v := ?_) (a' := ?_) #[true, true, true, true, true, true, true, true, true, true, true, false, false, true, true, true, true, false, false, false, false] rfl rfl (take_ofW HT_.out HW_.out (by kernel_rfl)) (fun _ _ _ h => h) (Or.inl ⟨by rfl, ?_⟩) hHeld ?_ ?_
          rotate_left
          ·rintro w' ⟨s0, s1, s2, s3, s4⟩
           go_simp
           with_reducible rfl
          rotate_left
          ·simp only [Act.put, List.setIfInBounds_toArray, List.set_cons_zero, List.set_cons_succ, i64_w, i32_w]
           rfl
          refine take_ (i := 11) (N := some 28) (v := ?_) (a' := ?_) #[true, true, true, true, true, true, true, true, true, true, true, true, false, true, true, true, true, false, false, false, false] rfl rfl (take_ofW HT_.out HW_.out (by kernel_rfl)) (fun _ _ _ h => h) (Or.inl ⟨by rfl, ?_⟩) hHeld ?_ ?_
          rotate_left
          ·rintro w' ⟨s0, s1, s2, s3, s4⟩
           go_simp
           with_reducible rfl
          rotate_left
          ·simp only [Act.put, List.setIfInBounds_toArray, List.set_cons_zero, List.set_cons_succ, i64_w, i32_w]
           rfl
          refine one_ (i := 12) (N := some 29) #[true, true, true, true, true, true, true, true, true, true, true, true, true, true, true, true, true, false, false, false, false] rfl rfl (one_of HT_.out (by kernel_rfl)) (by decide) (fun K hK => ?_)
          refine goes_ Tryd.func121 (by kernel_rfl) rfl #[.agg #[.int .i64 ((rd_T50 l0 x4_1).f0), .int .i64 ((rd_T50 l0 x4_1).f1), .float .f64 ((rd_T50 l0 x4_1).f2), .string ((rd_T50 l0 x4_1).f3)]] (by rfl) rfl rfl (by (try simp only [List.map_toArray, List.map_cons, List.map_nil]); first | done | rfl | (simp only [List.length_drop, List.length_take]; rfl)) ?_
          with_reducible refine (vellumref04_pair.calls ((rd_T50 l0 x4_1).f0) ((rd_T50 l0 x4_1).f1) ((rd_T50 l0 x4_1).f2) ((rd_T50 l0 x4_1).f3) t696 _ A12.out).mono ?_
          rintro e w19 ⟨rfl, hb⟩
          have HS0_ := (hb.cell (World.block_lt_of_cell? _ _ (hHeld.1))).trans (hHeld.1)
          refine ⟨_, rfl, ?_⟩
          have n0_ := Aside0.mk (Kd.R_below (by (with_reducible repeat (first | apply Kd.R_alloc | apply Kd.R_drewN | apply Kd.R_drew)); exact HO_3.out) hb)
          have n1_ := Aside0.mk (below_step (by repeat (first | (with_reducible first | exact HB.out | apply below_alloc | apply pw_below_drewN | apply below_drew1) | exact HB.out)) hb)
          clear HO_3
          clear HB
          have HO_3 := n0_
          have HB := n1_
          clear n0_ n1_
          (try clear hb)
          (try clear hb2)
          (try clear hk)
          (try clear hi)
          have p16 : 0 ≤ ((ji8) : Int) := of_decide_eq_true (by first | (with_reducible assumption) | assumption)
          have q16 : ((ji8) : Int) < ((x3_1.length : Int) : Int) := of_decide_eq_true (by first | (with_reducible assumption) | assumption)
          obtain ⟨go16, co16, eo16, gb16, gl16, cl16, HG16⟩ := Kd.R_form HO_3.out (by omega)
          (first | cases eo16 | (injection eo16 with ea_ en_ ec_; (first | subst ea_ | (injection ea_ with ea_; subst ea_)); subst ec_; clear en_))
          have GB16 := Aside0.mk gb16
          have GG16 := Aside0.mk HG16
          clear gb16 gl16 HG16
          (first | simp only [add_plain] at hx694_0 | skip)
          obtain ⟨hx16_0, hf16_0⟩ := Kd.R_celln 0 HO_3.out ((ji8) : Int) p16 q16
          replace p16 := eq_true p16
          replace q16 := eq_true q16
          have HP20 := Kd.R_putn HO_3.out ((ji8) : Int) (Go.bits .or .u8 (rd x3_1 (ji8)) (ji15))
          rw [← Ny697.out] at HP20
          have HQ20 := Aside0.mk HP20
          clear HP20
          refine hK.out _ _ ⟨HS0_, ((HB.out.cell (World.block_lt_of_cell? w _ hw695_0)).trans hw695_0), ((HB.out.cell (World.block_lt_of_cell? w _ hw695_1)).trans hw695_1), ((HB.out.cell (World.block_lt_of_cell? w _ hw695_2)).trans hw695_2), ((HB.out.cell (World.block_lt_of_cell? w _ hw695_3)).trans hw695_3)⟩ (fun hHeld => ?_)
          clear hK K
          refine norm_ (a' := ?_) ?_ ?_
          rotate_left
          ·show Act.put _ (some 29) _ = _
           simp only [Act.put, List.setIfInBounds_toArray, List.set_cons_zero, List.set_cons_succ, i64_w, i32_w]
           rfl
          refine pure_ (i := 17) (N := some 34) (v := ?_) (a' := ?_) #[true, true, true, true, true, true, true, true, true, true, true, true, true, true, true, true, true, true, false, false, false] rfl rfl (any_of HT_.out (by kernel_rfl)) (fun _ _ _ h => h) (Or.inl ⟨by rfl, ?_⟩) ?_ ?_
          rotate_left
          ·intro w'
           go_simp
           with_reducible rfl
          rotate_left
          ·simp only [Act.put, List.setIfInBounds_toArray, List.set_cons_zero, List.set_cons_succ, i64_w, i32_w]
           rfl
          refine pure_ (i := 18) (N := some 35) (v := ?_) (a' := ?_) #[true, true, true, true, true, true, true, true, true, true, true, true, true, true, true, true, true, true, true, false, false] rfl rfl (any_of HT_.out (by kernel_rfl)) (fun _ _ _ h => h) (Or.inl ⟨by rfl, ?_⟩) ?_ ?_
          rotate_left
          ·intro w'
           go_simp
           with_reducible rfl
          rotate_left
          ·simp only [Act.put, List.setIfInBounds_toArray, List.set_cons_zero, List.set_cons_succ, i64_w, i32_w]
           rfl
          refine pure_ (i := 19) (N := some 36) (v := ?_) (a' := ?_) #[true, true, true, true, true, true, true, true, true, true, true, true, true, true, true, true, true, true, true, true, false] rfl rfl (any_of HT_.out (by kernel_rfl)) (fun _ _ _ h => h) (Or.inl ⟨by rfl, ?_⟩) ?_ ?_
          rotate_left
          ·intro w'
           go_simp
           with_reducible rfl
          rotate_left
          ·simp only [Act.put, List.setIfInBounds_toArray, List.set_cons_zero, List.set_cons_succ, i64_w, i32_w]
           rfl
          refine last_ (i := 20) (N := none) #[true, true, true, true, true, true, true, true, true, true, true, true, true, true, true, true, true, true, true, true, true] rfl rfl (one_of HT_.out (by kernel_rfl)) (by decide) (fun K hK => ?_)
          refine skip_ (w1 := ?_) (by rfl) rfl ?_ ?_
          rotate_left
          ·go_simp
           rfl
          refine hK.out _ _ ?_
          clear hK K
          refine done_ (done_of HT_.out (by kernel_rfl)) ?_
          try go_wp2
          go_roundg k1
          case measure => have := HK1.out; omega
          case rel => exact ⟨(y697), (wrap64 (x4_1 + 1)), (by first | rfl | (simp; done) | (simp [*]; done) | (simp [bool_ne_nil]; done) | (simp; exact bool_ne_nil _)), H', ⟨by have := HK1.out; omega⟩, ⟨by (with_reducible repeat (first | apply Kd.R_alloc | apply Kd.R_drewN | apply Kd.R_drew)); exact HQ20.out⟩, ⟨by repeat (first | (with_reducible first | exact HB.out | apply below_alloc | apply pw_below_drewN | apply below_drew1 | refine below_set ?_ GB16.out) | exact HB.out)⟩⟩
         ·rw [if_neg c14] at H
          exact absurd H (by simp)
        ·rw [if_neg c11] at H
         exact absurd H (by simp)
       ·rw [if_neg c10] at H
        exact absurd H (by simp)
      ·rw [if_neg c9] at H
       exact absurd H (by simp)
     ·rw [if_neg c7] at H
      have c7b0 : decide (x4_1 < (l0.length : Int)) = false := decide_eq_false c7
      clear c7
      have H' := Aside0.mk H
      clear H
      go_wp2
      go_loopg [3, 5] k1 (fun kq v3 v5 w' => ∃ (x3_2 : List Int) (x5_2 : Int), v5 = .int .i64 x5_2 ∧ Aside0 (vellumref04_bytesOf.l1 kq l0 x3_2 x5_2 = some r) ∧ Aside0 (kq ≤ k1) ∧ Aside0 (Kd.R (Kd.int .u8) 5 w' w.heap.size (fun _ => True) v3 x3_2) ∧ Aside0 (Below w.heap.size w w'))
      case atStart => exact ⟨(x3_1), (0), (by first | rfl | (simp; done) | (simp [*]; done) | (simp [bool_ne_nil]; done) | (simp; exact bool_ne_nil _)), H', ⟨Nat.le_refl _⟩, ⟨by (with_reducible repeat (first | apply Kd.R_alloc | apply Kd.R_drewN | apply Kd.R_drew)); exact HO_3.out⟩, ⟨by repeat (first | (with_reducible first | exact HB.out | apply below_alloc | apply pw_below_drewN | apply below_drew1) | exact HB.out)⟩⟩
      case round =>
       clear H'
       (try clear c1); (try clear p1); (try clear q1); (try clear hx1); (try clear hf1); (try clear p2); (try clear c3); (try clear c3b0); (try clear c3b1); (try clear c4); (try clear c4b0); (try clear c4b1); (try clear p6); (try clear q6); (try clear hx6); (try clear c7); (try clear c7b0); (try clear c8); (try clear c9); (try clear c9b0); (try clear c10); (try clear c10b0); (try clear c11); (try clear c11b0); (try clear c12); (try clear c14); (try clear c14b0); (try clear c14b1); (try clear p16); (try clear q16); (try clear hx16); (try clear hf16); (try clear hx16_0); (try clear hx694_0); (try clear hx695_0); (try clear hx695_1); (try clear hx695_2); (try clear hx695_3); (try clear p16); (try clear p2); (try clear p6); (try clear p694); (try clear p695); (try clear q16); (try clear q694); (try clear q695)
       obtain ⟨x3_2, x5_2, rfl, HA, HK2, HO_3, HB⟩ := hrel
       cases gk with
       | zero => exact absurd HA.out (by simp [vellumref04_bytesOf.l1])
       | succ k2 =>
        have H := HA.out
        clear HA
        simp only [vellumref04_bytesOf.l1] at H
        by_cases c21 : x5_2 < (l0.length : Int)
        ·rw [if_pos c21] at H
         have c21b0 : decide (x5_2 < (l0.length : Int)) = true := decide_eq_true c21
         clear c21
         by_cases c22 : 0 ≤ x5_2
         ·rw [if_pos c22] at H
          have c22b0 : decide (0 ≤ x5_2) = true := decide_eq_true c22
          clear c22
          replace H := Option.bind_eq_some_iff.mp H
          obtain ⟨t699, A230, H⟩ := H
          replace H : (if x3_2.length + t699.length < 140737488355328 then (vellumref04_bytesOf.l1 k2 l0 (x3_2 ++ t699) (wrap64 (x5_2 + 1))) else (none)) = some r := H
          have A23 := Aside0.mk A230
          clear A230
          by_cases c24 : x3_2.length + t699.length < 140737488355328
          ·rw [if_pos c24] at H
           have LMc24 := Aside0.mk c24
           clear c24
           obtain ⟨y702, hy702⟩ : ∃ y_ : List Int, y_ = (x3_2 ++ t699) := ⟨_, rfl⟩
           replace H : (vellumref04_bytesOf.l1 k2 l0 y702 (wrap64 (x5_2 + 1))) = some r := by first | (rw [hy702]; with_reducible exact H) | (have H2_ := (Option.bind_some _ _).symm.trans H; rw [hy702]; with_reducible exact H2_) | (have H2_ := (Option.bind_some _ _).symm.trans H; with_reducible exact H2_) | with_reducible exact H | (rw [hy702]; exact H) | exact H
           have Ny702 := Aside0.mk hy702
           clear hy702
           have H' := Aside0.mk H
           clear H
           have p698 : 0 ≤ (x5_2 : Int) := of_decide_eq_true (by first | (with_reducible assumption) | assumption)
           have q698 : x5_2 < (l0.length : Int) := of_decide_eq_true (by first | (with_reducible assumption) | assumption)
           obtain ⟨ad698, e698, hx698_0, hx698_1, hx698_2, hx698_3⟩ := at_T50 HR0.out x5_2 p698 q698
           cases e698
           replace hx698_0 := (HB.out.cell (World.block_lt_of_cell? w _ hx698_0)).trans hx698_0
           replace hx698_1 := (HB.out.cell (World.block_lt_of_cell? w _ hx698_1)).trans hx698_1
           replace hx698_2 := (HB.out.cell (World.block_lt_of_cell? w _ hx698_2)).trans hx698_2
           replace hx698_3 := (HB.out.cell (World.block_lt_of_cell? w _ hx698_3)).trans hx698_3
           replace p698 := eq_true p698
           replace q698 := eq_true q698
           go_wp2_with (first | ((with_reducible refine gate_callee (f := 122) rfl ?_); refine goesL_ (some 48) rfl rfl Tryd.func122 (by kernel_rfl) rfl #[.agg #[.int .i64 ((rd_T50 l0 x5_2).f0), .int .i64 ((rd_T50 l0 x5_2).f1), .float .f64 ((rd_T50 l0 x5_2).f2), .string ((rd_T50 l0 x5_2).f3)]] rfl (by (try simp only [List.map_toArray, List.map_cons, List.map_nil]); first | done | rfl | (simp only [List.length_drop, List.length_take]; rfl)) ?_; (with_reducible refine (vellumref04_told.calls k2 ((rd_T50 l0 x5_2).f0) ((rd_T50 l0 x5_2).f1) ((rd_T50 l0 x5_2).f2) ((rd_T50 l0 x5_2).f3) t699 _ A23.out).mono ?_); rintro e w25 ⟨v700, rfl, ho0, hb⟩; refine ⟨_, rfl, ?_⟩; have n0_ := Aside0.mk (Kd.R_elder' (by (with_reducible repeat (first | apply Kd.R_alloc | apply Kd.R_drewN | apply Kd.R_drew)); exact HO_3.out) (Kd.R_base ho0) hb); have n1_ := Aside0.mk (Kd.R_lower (Kd.R_new' ho0 (Kd.R_lt (by (with_reducible repeat (first | apply Kd.R_alloc | apply Kd.R_drewN | apply Kd.R_drew)); exact HO_3.out))) (below_size (by repeat (first | (with_reducible first | exact HB.out | apply below_alloc | apply pw_below_drewN | apply below_drew1) | exact HB.out)))); have n2_ := Aside0.mk (below_step (by repeat (first | (with_reducible first | exact HB.out | apply below_alloc | apply pw_below_drewN | apply below_drew1) | exact HB.out)) hb); clear HO_3; clear HB; have HO_3 := n0_; have HO701 := n1_; have HB := n2_; clear n0_ n1_ n2_; (try clear hb); (try clear hb2); (try clear hk); (try clear hi); (try clear ho0); obtain ⟨Ao27, co27, eo27⟩ := Kd.R_slice HO701.out; subst eo27) | ((with_reducible refine gate_builtin (b := .append) (xs := #[.tmp 43, .tmp 48]) rfl ?_); at_builtin; refine Kd.R_append_rows (Kd.int .u8) (w0 := w) w.heap.size rfl (.tmp 43) (.tmp 48) 80 5 (.int .u8 0) 1 rfl Tryd.underlying80 info5 rfl (by decide) (by omega) u3 x3_2 t699 _ _ _ (fun k_ => some k_ ≠ (.slice Ao27 t699.length co27 : Value).ownBlock) (fun _ => False) rfl rfl ?aO ?aR (fun _ _ h => h) (fun _ h => h.elim) ?aF ?aB ?aS ?aL ?_; (case aR => repeat (first | exact (Kd.R_reads' HO701.out).2.2 | (with_reducible refine Kd.C_alloc ?_ _) | (with_reducible refine Kd.C_drewN ?_ _) | (with_reducible refine Kd.C_drew ?_))); (case aB => exact (by repeat (first | (with_reducible first | exact HB.out | apply below_alloc | apply pw_below_drewN | apply below_drew1) | exact HB.out))); (case aF => exact (fun k_ hk => Kd.fresh' (Kd.R_lt (by (with_reducible repeat (first | apply Kd.R_alloc | apply Kd.R_drewN | apply Kd.R_drew)); exact HO701.out)) k_ hk)); (case aO => exact (by (with_reducible repeat (first | apply Kd.R_alloc | apply Kd.R_drewN | apply Kd.R_drew)); exact Kd.R_mono HO_3.out (fun _ hk => hk.2))); (case aS => exact (below_size (by repeat (first | (with_reducible first | exact HB.out | apply below_alloc | apply pw_below_drewN | apply below_drew1) | exact HB.out)))); (case aL => have := LMc24.out; omega); intro v703 w26 ho hb hg hat; rw [← Ny702.out] at ho; have n0_ := Aside0.mk (Kd.R_after (ok := (fun _ => True)) (by (with_reducible repeat (first | apply Kd.R_alloc | apply Kd.R_drewN | apply Kd.R_drew)); exact HO701.out) hg hat); have n1_ := Aside0.mk (hb); have n2_ := Aside0.mk (ho); clear HO701; clear HB; clear HO_3; have HO701 := n0_; have HB := n1_; have HO704 := n2_; clear n0_ n1_ n2_; clear ho hb hg hat))
           go_roundg k2
           case measure => have := HK1.out; have := HK2.out; omega
           case rel => exact ⟨(y702), (wrap64 (x5_2 + 1)), (by first | rfl | (simp; done) | (simp [*]; done) | (simp [bool_ne_nil]; done) | (simp; exact bool_ne_nil _)), H', ⟨by have := HK1.out; have := HK2.out; omega⟩, ⟨by (with_reducible repeat (first | apply Kd.R_alloc | apply Kd.R_drewN | apply Kd.R_drew)); exact Kd.R_mono HO704.out (fun _ hk => trivial)⟩, ⟨by repeat (first | (with_reducible first | exact HB.out | apply below_alloc | apply pw_below_drewN | apply below_drew1) | exact HB.out)⟩⟩
          ·rw [if_neg c24] at H
           exact absurd H (by simp)
         ·rw [if_neg c22] at H
          exact absurd H (by simp)
        ·rw [if_neg c21] at H
         have c21b0 : decide (x5_2 < (l0.length : Int)) = false := decide_eq_false c21
         clear c21
         obtain rfl := Option.some.inj H
         go_wp2
         go_ret
         exact ⟨_, by first | rfl | (simp [errW_none, errW_some] <;> rfl) | (simp only [← hji2]; first | rfl | (simp [errW_none, errW_some] <;> rfl)) | (simp [*, errW_none, errW_some] <;> rfl), by (with_reducible repeat (first | apply Kd.R_alloc | apply Kd.R_drewN | apply Kd.R_drew)); exact HO_3.out, by repeat (first | (with_reducible first | exact HB.out | apply below_alloc | apply pw_below_drewN | apply below_drew1) | exact HB.out)⟩
  ·rw [if_neg c4] at H
   exact absurd H (by simp)
 ·rw [if_neg c3] at H
  exact absurd H (by simp)
def vellumref04_Encode.f (k : Nat) (a0_0 : ByteArray) (l0_1 : List (S105)) (l0_2 : List Int) (l0_3 : List (S115)) (l0_4 : List (S139)) (l1 : List (S50)) : Option (ByteArray × Int) := (vellumref03_Admits.f k a0_0 l0_1 l0_2 l0_3 l0_4 l1).bind fun t706 => (if t706 = 0 then ((vellumref04_bytesOf.f k l1).bind fun t707 => (if (t707.length : Int) > 65536 then (some ((⟨#[]⟩ : ByteArray), 3)) else (some (strOfNums t707, 0)))) else (some ((⟨#[]⟩ : ByteArray), t706)))
set_option maxHeartbeats 8000000 in
set_option maxRecDepth 100000 in
theorem vellumref04_Encode.calls (k : Nat) (a0_0 : ByteArray) (A0_1 : Option Addr) (c0_1 : Nat) (l0_1 : List (S105)) (A0_2 : Option Addr) (c0_2 : Nat) (l0_2 : List Int) (A0_3 : Option Addr) (c0_3 : Nat) (l0_3 : List (S115)) (A0_4 : Option Addr) (c0_4 : Nat) (l0_4 : List (S139)) (A1 : Option Addr) (c1 : Nat) (l1 : List (S50)) (r1 : ByteArray) (r2 : Int) (w : World) (hr0_1 : Kd.C k105 w A0_1 l0_1.length l0_1) (hc0_1 : l0_1.length ≤ c0_1) (hr0_2 : Kd.C (Kd.int .i64) w A0_2 l0_2.length l0_2) (hc0_2 : l0_2.length ≤ c0_2) (hr0_3 : Kd.C k115 w A0_3 l0_3.length l0_3) (hc0_3 : l0_3.length ≤ c0_3) (hr0_4 : Kd.C k139 w A0_4 l0_4.length l0_4) (hc0_4 : l0_4.length ≤ c0_4) (hr1 : Kd.C k50 w A1 l1.length l1) (hc1 : l1.length ≤ c1) (hG : Glob w) (h : vellumref04_Encode.f k a0_0 l0_1 l0_2 l0_3 l0_4 l1 = some (r1, r2)) :
  Calls Tryd.prog 53 #[.agg #[.string a0_0, .slice A0_1 l0_1.length c0_1, .slice A0_2 l0_2.length c0_2, .slice A0_3 l0_3.length c0_3, .slice A0_4 l0_4.length c0_4], .slice A1 l1.length c1] w fun e w' => e = .returned (.tuple #[.string r1, .int .i64 r2]) ∧ Below w.heap.size w w' := by
 have hu65 := Tryd.underlying65
 have HR0_1 := Aside0.mk hr0_1
 have HC0_1 := Aside0.mk hc0_1
 clear hr0_1 hc0_1
 have HR0_2 := Aside0.mk hr0_2
 have HC0_2 := Aside0.mk hc0_2
 clear hr0_2 hc0_2
 have HR0_3 := Aside0.mk hr0_3
 have HC0_3 := Aside0.mk hc0_3
 clear hr0_3 hc0_3
 have HR0_4 := Aside0.mk hr0_4
 have HC0_4 := Aside0.mk hc0_4
 clear hr0_4 hc0_4
 have HR1 := Aside0.mk hr1
 have HC1 := Aside0.mk hc1
 clear hr1 hc1
 have HG := Aside0.mk hG
 clear hG
 have HB := Aside0.mk (Below.refl w.heap.size w)
 have H : ((vellumref03_Admits.f k a0_0 l0_1 l0_2 l0_3 l0_4 l1).bind fun t706 => (if t706 = 0 then ((vellumref04_bytesOf.f k l1).bind fun t707 => (if (t707.length : Int) > 65536 then (some ((⟨#[]⟩ : ByteArray), 3)) else (some (strOfNums t707, 0)))) else (some ((⟨#[]⟩ : ByteArray), t706)))) = some (r1, r2) := h
 clear h
 replace H := Option.bind_eq_some_iff.mp H
 obtain ⟨t706, A30, H⟩ := H
 replace H : (if t706 = 0 then ((vellumref04_bytesOf.f k l1).bind fun t707 => (if (t707.length : Int) > 65536 then (some ((⟨#[]⟩ : ByteArray), 3)) else (some (strOfNums t707, 0)))) else (some ((⟨#[]⟩ : ByteArray), t706))) = some (r1, r2) := H
 have A3 := Aside0.mk A30
 clear A30
 by_cases c4 : t706 = 0
 ·rw [if_pos c4] at H
  have c4b0 : (t706 == 0) = true := beq_iff_eq.mpr c4
  have c4b1 : (t706 != 0) = false := bne_eq_false_iff_eq.mpr c4
  clear c4
  replace H := Option.bind_eq_some_iff.mp H
  obtain ⟨t707, A50, H⟩ := H
  replace H : (if (t707.length : Int) > 65536 then (some ((⟨#[]⟩ : ByteArray), 3)) else (some (strOfNums t707, 0))) = some (r1, r2) := H
  have A5 := Aside0.mk A50
  clear A50
  by_cases c6 : (t707.length : Int) > 65536
  ·rw [if_pos c6] at H
   have c6b0 : decide (65536 < (t707.length : Int)) = true := decide_eq_true c6
   have c6b1 : decide (65536 < t707.length) = true := decide_eq_true (by omega)
   clear c6
   simp only [Option.some.injEq, Prod.mk.injEq] at H
   obtain ⟨rfl, rfl⟩ := H
   go_enter Tryd.func53, Tryd.ntmps53
   go_wp2_with (first | ((with_reducible refine gate_dst (N := 2) rfl ?_); refine box_event ?hg (N := 2) ?hd (cs := #[.string a0_0, .slice A0_1 l0_1.length c0_1, .slice A0_2 l0_2.length c0_2, .slice A0_3 l0_3.length c0_3, .slice A0_4 l0_4.length c0_4]) (t := 65) ?hr ?_; (case hd => rfl); (case hg => rfl); (case hr => first | (go_simp; done) | (go_simp; rfl)); intro gb705 hg w7 hbox hb; have n0_ := Aside0.mk (below_step (by repeat (first | (with_reducible first | exact HB.out | apply below_alloc | apply pw_below_drewN | apply below_drew1) | exact HB.out)) hb); have n1_ := Aside0.mk (hbox); have n2_ := Aside0.mk ((by rw [hg]; exact (below_size (by repeat (first | (with_reducible first | exact HB.out | apply below_alloc | apply pw_below_drewN | apply below_drew1) | exact HB.out))) : w.heap.size ≤ gb705)); have n3_ := n2_; clear HB; have HB := n0_; have BK705 := n1_; have GW705 := n2_; have GE705 := n3_; clear n0_ n1_ n2_ n3_; clear hb hbox hg; have hcz8_0 : w7.cell? ⟨gb705, 0, none⟩ = some (.string a0_0) := (blk_cell BK705.out 0).trans rfl; have hcz8_1 : w7.cell? ⟨gb705, 1, none⟩ = some (.slice A0_1 l0_1.length c0_1) := (blk_cell BK705.out 1).trans rfl; have hcz8_2 : w7.cell? ⟨gb705, 2, none⟩ = some (.slice A0_2 l0_2.length c0_2) := (blk_cell BK705.out 2).trans rfl; have hcz8_3 : w7.cell? ⟨gb705, 3, none⟩ = some (.slice A0_3 l0_3.length c0_3) := (blk_cell BK705.out 3).trans rfl; have hcz8_4 : w7.cell? ⟨gb705, 4, none⟩ = some (.slice A0_4 l0_4.length c0_4) := (blk_cell BK705.out 4).trans rfl; have hfz8_0 := blk_frozen BK705.out 0; have hfz8_1 := blk_frozen BK705.out 1; have hfz8_2 := blk_frozen BK705.out 2; have hfz8_3 := blk_frozen BK705.out 3; have hfz8_4 := blk_frozen BK705.out 4) | ((with_reducible refine gate_callee (f := 85) rfl ?_); refine goesL_ (some 10) rfl rfl Tryd.func85 (by kernel_rfl) rfl #[.agg #[.string a0_0, .slice A0_1 l0_1.length c0_1, .slice A0_2 l0_2.length c0_2, .slice A0_3 l0_3.length c0_3, .slice A0_4 l0_4.length c0_4], .slice A1 l1.length c1] rfl (by (try simp only [List.map_toArray, List.map_cons, List.map_nil]); first | done | rfl | (simp only [List.length_drop, List.length_take]; rfl)) ?_; (with_reducible refine (vellumref03_Admits.calls k a0_0 _ _ l0_1 _ _ l0_2 _ _ l0_3 _ _ l0_4 _ _ l1 t706 _ ?side1 ?side2 ?side3 ?side4 ?side5 ?side6 ?side7 ?side8 ?side9 ?side10 ?side11 A3.out).mono ?_); (case side1 => repeat (first | exact (Kd.C_below HR0_1.out HB.out) | (with_reducible refine Kd.C_alloc ?_ _) | (with_reducible refine Kd.C_drewN ?_ _) | (with_reducible refine Kd.C_drew ?_))); (case side2 => exact HC0_1.out); (case side3 => repeat (first | exact (Kd.C_below HR0_2.out HB.out) | (with_reducible refine Kd.C_alloc ?_ _) | (with_reducible refine Kd.C_drewN ?_ _) | (with_reducible refine Kd.C_drew ?_))); (case side4 => exact HC0_2.out); (case side5 => repeat (first | exact (Kd.C_below HR0_3.out HB.out) | (with_reducible refine Kd.C_alloc ?_ _) | (with_reducible refine Kd.C_drewN ?_ _) | (with_reducible refine Kd.C_drew ?_))); (case side6 => exact HC0_3.out); (case side7 => repeat (first | exact (Kd.C_below HR0_4.out HB.out) | (with_reducible refine Kd.C_alloc ?_ _) | (with_reducible refine Kd.C_drewN ?_ _) | (with_reducible refine Kd.C_drew ?_))); (case side8 => exact HC0_4.out); (case side9 => repeat (first | exact (Kd.C_below HR1.out HB.out) | (with_reducible refine Kd.C_alloc ?_ _) | (with_reducible refine Kd.C_drewN ?_ _) | (with_reducible refine Kd.C_drew ?_))); (case side10 => exact HC1.out); (case side11 => exact Glob.below HG.out (by repeat (first | (with_reducible first | exact HB.out | apply below_alloc | apply pw_below_drewN | apply below_drew1 | refine below_set ?_ GE705.out) | exact HB.out))); rintro e w9 ⟨rfl, hb⟩; refine ⟨_, rfl, ?_⟩; have n0_ := Aside0.mk (blk_below (g := gb705) (o := .cells #[.string a0_0, .slice A0_1 l0_1.length c0_1, .slice A0_2 l0_2.length c0_2, .slice A0_3 l0_3.length c0_3, .slice A0_4 l0_4.length c0_4] 65 (0, 0)) (by (with_reducible repeat (first | refine blk_drewN ?_ _ | refine blk_drew ?_ | refine blk_alloc ?_ _)); exact BK705.out) hb); have n1_ := Aside0.mk (below_step (by repeat (first | (with_reducible first | exact HB.out | apply below_alloc | apply pw_below_drewN | apply below_drew1 | refine below_set ?_ GE705.out) | exact HB.out)) hb); clear BK705; clear HB; have BK705 := n0_; have HB := n1_; clear n0_ n1_; (try clear hb); (try clear hb2); (try clear hk); (try clear hi)) | ((with_reducible refine gate_callee (f := 86) rfl ?_); refine goesL_ (some 15) rfl rfl Tryd.func86 (by kernel_rfl) rfl #[.slice A1 l1.length c1] rfl (by (try simp only [List.map_toArray, List.map_cons, List.map_nil]); first | done | rfl | (simp only [List.length_drop, List.length_take]; rfl)) ?_; (with_reducible refine (vellumref04_bytesOf.calls k _ _ l1 t707 _ ?side1 ?side2 A5.out).mono ?_); (case side1 => repeat (first | exact (Kd.C_below HR1.out HB.out) | (with_reducible refine Kd.C_alloc ?_ _) | (with_reducible refine Kd.C_drewN ?_ _) | (with_reducible refine Kd.C_drew ?_))); (case side2 => exact HC1.out); rintro e w10 ⟨v708, rfl, ho0, hb⟩; refine ⟨_, rfl, ?_⟩; have n0_ := Aside0.mk (Kd.R_lower ho0 (below_size (by repeat (first | (with_reducible first | exact HB.out | apply below_alloc | apply pw_below_drewN | apply below_drew1 | refine below_set ?_ GE705.out) | exact HB.out)))); have n1_ := Aside0.mk (blk_below (g := gb705) (o := .cells #[.string a0_0, .slice A0_1 l0_1.length c0_1, .slice A0_2 l0_2.length c0_2, .slice A0_3 l0_3.length c0_3, .slice A0_4 l0_4.length c0_4] 65 (0, 0)) (by (with_reducible repeat (first | refine blk_drewN ?_ _ | refine blk_drew ?_ | refine blk_alloc ?_ _)); exact BK705.out) hb); have n2_ := Aside0.mk (below_step (by repeat (first | (with_reducible first | exact HB.out | apply below_alloc | apply pw_below_drewN | apply below_drew1 | refine below_set ?_ GE705.out) | exact HB.out)) hb); clear BK705; clear HB; have HO709 := n0_; have BK705 := n1_; have HB := n2_; clear n0_ n1_ n2_; (try clear hb); (try clear hb2); (try clear hk); (try clear hi); (try clear ho0); obtain ⟨Ao11, co11, eo11⟩ := Kd.R_slice HO709.out; subst eo11))
   go_ret2
   exact ⟨by first | rfl | (simp [errW_none, errW_some] <;> rfl) | (simp [*, errW_none, errW_some] <;> rfl), by repeat (first | (with_reducible first | exact HB.out | apply below_alloc | apply pw_below_drewN | apply below_drew1 | refine below_set ?_ GE705.out) | exact HB.out)⟩
  ·rw [if_neg c6] at H
   have c6b0 : decide (65536 < (t707.length : Int)) = false := decide_eq_false c6
   have c6b1 : decide (65536 < t707.length) = false := decide_eq_false (by omega)
   clear c6
   simp only [Option.some.injEq, Prod.mk.injEq] at H
   obtain ⟨rfl, rfl⟩ := H
   go_enter Tryd.func53, Tryd.ntmps53
   go_wp2_with (first | ((with_reducible refine gate_dst (N := 2) rfl ?_); refine box_event ?hg (N := 2) ?hd (cs := #[.string a0_0, .slice A0_1 l0_1.length c0_1, .slice A0_2 l0_2.length c0_2, .slice A0_3 l0_3.length c0_3, .slice A0_4 l0_4.length c0_4]) (t := 65) ?hr ?_; (case hd => rfl); (case hg => rfl); (case hr => first | (go_simp; done) | (go_simp; rfl)); intro gb705 hg w12 hbox hb; have n0_ := Aside0.mk (below_step (by repeat (first | (with_reducible first | exact HB.out | apply below_alloc | apply pw_below_drewN | apply below_drew1) | exact HB.out)) hb); have n1_ := Aside0.mk (hbox); have n2_ := Aside0.mk ((by rw [hg]; exact (below_size (by repeat (first | (with_reducible first | exact HB.out | apply below_alloc | apply pw_below_drewN | apply below_drew1) | exact HB.out))) : w.heap.size ≤ gb705)); have n3_ := n2_; clear HB; have HB := n0_; have BK705 := n1_; have GW705 := n2_; have GE705 := n3_; clear n0_ n1_ n2_ n3_; clear hb hbox hg; have hcz13_0 : w12.cell? ⟨gb705, 0, none⟩ = some (.string a0_0) := (blk_cell BK705.out 0).trans rfl; have hcz13_1 : w12.cell? ⟨gb705, 1, none⟩ = some (.slice A0_1 l0_1.length c0_1) := (blk_cell BK705.out 1).trans rfl; have hcz13_2 : w12.cell? ⟨gb705, 2, none⟩ = some (.slice A0_2 l0_2.length c0_2) := (blk_cell BK705.out 2).trans rfl; have hcz13_3 : w12.cell? ⟨gb705, 3, none⟩ = some (.slice A0_3 l0_3.length c0_3) := (blk_cell BK705.out 3).trans rfl; have hcz13_4 : w12.cell? ⟨gb705, 4, none⟩ = some (.slice A0_4 l0_4.length c0_4) := (blk_cell BK705.out 4).trans rfl; have hfz13_0 := blk_frozen BK705.out 0; have hfz13_1 := blk_frozen BK705.out 1; have hfz13_2 := blk_frozen BK705.out 2; have hfz13_3 := blk_frozen BK705.out 3; have hfz13_4 := blk_frozen BK705.out 4) | ((with_reducible refine gate_callee (f := 85) rfl ?_); refine goesL_ (some 10) rfl rfl Tryd.func85 (by kernel_rfl) rfl #[.agg #[.string a0_0, .slice A0_1 l0_1.length c0_1, .slice A0_2 l0_2.length c0_2, .slice A0_3 l0_3.length c0_3, .slice A0_4 l0_4.length c0_4], .slice A1 l1.length c1] rfl (by (try simp only [List.map_toArray, List.map_cons, List.map_nil]); first | done | rfl | (simp only [List.length_drop, List.length_take]; rfl)) ?_; (with_reducible refine (vellumref03_Admits.calls k a0_0 _ _ l0_1 _ _ l0_2 _ _ l0_3 _ _ l0_4 _ _ l1 t706 _ ?side1 ?side2 ?side3 ?side4 ?side5 ?side6 ?side7 ?side8 ?side9 ?side10 ?side11 A3.out).mono ?_); (case side1 => repeat (first | exact (Kd.C_below HR0_1.out HB.out) | (with_reducible refine Kd.C_alloc ?_ _) | (with_reducible refine Kd.C_drewN ?_ _) | (with_reducible refine Kd.C_drew ?_))); (case side2 => exact HC0_1.out); (case side3 => repeat (first | exact (Kd.C_below HR0_2.out HB.out) | (with_reducible refine Kd.C_alloc ?_ _) | (with_reducible refine Kd.C_drewN ?_ _) | (with_reducible refine Kd.C_drew ?_))); (case side4 => exact HC0_2.out); (case side5 => repeat (first | exact (Kd.C_below HR0_3.out HB.out) | (with_reducible refine Kd.C_alloc ?_ _) | (with_reducible refine Kd.C_drewN ?_ _) | (with_reducible refine Kd.C_drew ?_))); (case side6 => exact HC0_3.out); (case side7 => repeat (first | exact (Kd.C_below HR0_4.out HB.out) | (with_reducible refine Kd.C_alloc ?_ _) | (with_reducible refine Kd.C_drewN ?_ _) | (with_reducible refine Kd.C_drew ?_))); (case side8 => exact HC0_4.out); (case side9 => repeat (first | exact (Kd.C_below HR1.out HB.out) | (with_reducible refine Kd.C_alloc ?_ _) | (with_reducible refine Kd.C_drewN ?_ _) | (with_reducible refine Kd.C_drew ?_))); (case side10 => exact HC1.out); (case side11 => exact Glob.below HG.out (by repeat (first | (with_reducible first | exact HB.out | apply below_alloc | apply pw_below_drewN | apply below_drew1 | refine below_set ?_ GE705.out) | exact HB.out))); rintro e w14 ⟨rfl, hb⟩; refine ⟨_, rfl, ?_⟩; have n0_ := Aside0.mk (blk_below (g := gb705) (o := .cells #[.string a0_0, .slice A0_1 l0_1.length c0_1, .slice A0_2 l0_2.length c0_2, .slice A0_3 l0_3.length c0_3, .slice A0_4 l0_4.length c0_4] 65 (0, 0)) (by (with_reducible repeat (first | refine blk_drewN ?_ _ | refine blk_drew ?_ | refine blk_alloc ?_ _)); exact BK705.out) hb); have n1_ := Aside0.mk (below_step (by repeat (first | (with_reducible first | exact HB.out | apply below_alloc | apply pw_below_drewN | apply below_drew1 | refine below_set ?_ GE705.out) | exact HB.out)) hb); clear BK705; clear HB; have BK705 := n0_; have HB := n1_; clear n0_ n1_; (try clear hb); (try clear hb2); (try clear hk); (try clear hi)) | ((with_reducible refine gate_callee (f := 86) rfl ?_); refine goesL_ (some 15) rfl rfl Tryd.func86 (by kernel_rfl) rfl #[.slice A1 l1.length c1] rfl (by (try simp only [List.map_toArray, List.map_cons, List.map_nil]); first | done | rfl | (simp only [List.length_drop, List.length_take]; rfl)) ?_; (with_reducible refine (vellumref04_bytesOf.calls k _ _ l1 t707 _ ?side1 ?side2 A5.out).mono ?_); (case side1 => repeat (first | exact (Kd.C_below HR1.out HB.out) | (with_reducible refine Kd.C_alloc ?_ _) | (with_reducible refine Kd.C_drewN ?_ _) | (with_reducible refine Kd.C_drew ?_))); (case side2 => exact HC1.out); rintro e w15 ⟨v708, rfl, ho0, hb⟩; refine ⟨_, rfl, ?_⟩; have n0_ := Aside0.mk (Kd.R_lower ho0 (below_size (by repeat (first | (with_reducible first | exact HB.out | apply below_alloc | apply pw_below_drewN | apply below_drew1 | refine below_set ?_ GE705.out) | exact HB.out)))); have n1_ := Aside0.mk (blk_below (g := gb705) (o := .cells #[.string a0_0, .slice A0_1 l0_1.length c0_1, .slice A0_2 l0_2.length c0_2, .slice A0_3 l0_3.length c0_3, .slice A0_4 l0_4.length c0_4] 65 (0, 0)) (by (with_reducible repeat (first | refine blk_drewN ?_ _ | refine blk_drew ?_ | refine blk_alloc ?_ _)); exact BK705.out) hb); have n2_ := Aside0.mk (below_step (by repeat (first | (with_reducible first | exact HB.out | apply below_alloc | apply pw_below_drewN | apply below_drew1 | refine below_set ?_ GE705.out) | exact HB.out)) hb); clear BK705; clear HB; have HO709 := n0_; have BK705 := n1_; have HB := n2_; clear n0_ n1_ n2_; (try clear hb); (try clear hb2); (try clear hk); (try clear hi); (try clear ho0); obtain ⟨Ao16, co16, eo16⟩ := Kd.R_slice HO709.out; subst eo16; have hcv17 := own_string (P := Tryd.prog) Tryd.underlying80 Tryd.underlying5 Tryd.underlying9 (Kd.own_of_R HO709.out)))
   go_ret2
   exact ⟨by first | rfl | (simp [errW_none, errW_some] <;> rfl) | (simp [*, errW_none, errW_some] <;> rfl), by repeat (first | (with_reducible first | exact HB.out | apply below_alloc | apply pw_below_drewN | apply below_drew1 | refine below_set ?_ GE705.out) | exact HB.out)⟩
 ·rw [if_neg c4] at H
  have c4b0 : (t706 == 0) = false := beq_eq_false_iff_ne.mpr c4
  have c4b1 : (t706 != 0) = true := bne_iff_ne.mpr c4
  simp only [Option.some.injEq, Prod.mk.injEq] at H
  obtain ⟨rfl, rfl⟩ := H
  go_enter Tryd.func53, Tryd.ntmps53
  go_wp2_with (first | ((with_reducible refine gate_dst (N := 2) rfl ?_); refine box_event ?hg (N := 2) ?hd (cs := #[.string a0_0, .slice A0_1 l0_1.length c0_1, .slice A0_2 l0_2.length c0_2, .slice A0_3 l0_3.length c0_3, .slice A0_4 l0_4.length c0_4]) (t := 65) ?hr ?_; (case hd => rfl); (case hg => rfl); (case hr => first | (go_simp; done) | (go_simp; rfl)); intro gb705 hg w18 hbox hb; have n0_ := Aside0.mk (below_step (by repeat (first | (with_reducible first | exact HB.out | apply below_alloc | apply pw_below_drewN | apply below_drew1) | exact HB.out)) hb); have n1_ := Aside0.mk (hbox); have n2_ := Aside0.mk ((by rw [hg]; exact (below_size (by repeat (first | (with_reducible first | exact HB.out | apply below_alloc | apply pw_below_drewN | apply below_drew1) | exact HB.out))) : w.heap.size ≤ gb705)); have n3_ := n2_; clear HB; have HB := n0_; have BK705 := n1_; have GW705 := n2_; have GE705 := n3_; clear n0_ n1_ n2_ n3_; clear hb hbox hg; have hcz19_0 : w18.cell? ⟨gb705, 0, none⟩ = some (.string a0_0) := (blk_cell BK705.out 0).trans rfl; have hcz19_1 : w18.cell? ⟨gb705, 1, none⟩ = some (.slice A0_1 l0_1.length c0_1) := (blk_cell BK705.out 1).trans rfl; have hcz19_2 : w18.cell? ⟨gb705, 2, none⟩ = some (.slice A0_2 l0_2.length c0_2) := (blk_cell BK705.out 2).trans rfl; have hcz19_3 : w18.cell? ⟨gb705, 3, none⟩ = some (.slice A0_3 l0_3.length c0_3) := (blk_cell BK705.out 3).trans rfl; have hcz19_4 : w18.cell? ⟨gb705, 4, none⟩ = some (.slice A0_4 l0_4.length c0_4) := (blk_cell BK705.out 4).trans rfl; have hfz19_0 := blk_frozen BK705.out 0; have hfz19_1 := blk_frozen BK705.out 1; have hfz19_2 := blk_frozen BK705.out 2; have hfz19_3 := blk_frozen BK705.out 3; have hfz19_4 := blk_frozen BK705.out 4) | ((with_reducible refine gate_callee (f := 85) rfl ?_); refine goesL_ (some 10) rfl rfl Tryd.func85 (by kernel_rfl) rfl #[.agg #[.string a0_0, .slice A0_1 l0_1.length c0_1, .slice A0_2 l0_2.length c0_2, .slice A0_3 l0_3.length c0_3, .slice A0_4 l0_4.length c0_4], .slice A1 l1.length c1] rfl (by (try simp only [List.map_toArray, List.map_cons, List.map_nil]); first | done | rfl | (simp only [List.length_drop, List.length_take]; rfl)) ?_; (with_reducible refine (vellumref03_Admits.calls k a0_0 _ _ l0_1 _ _ l0_2 _ _ l0_3 _ _ l0_4 _ _ l1 t706 _ ?side1 ?side2 ?side3 ?side4 ?side5 ?side6 ?side7 ?side8 ?side9 ?side10 ?side11 A3.out).mono ?_); (case side1 => repeat (first | exact (Kd.C_below HR0_1.out HB.out) | (with_reducible refine Kd.C_alloc ?_ _) | (with_reducible refine Kd.C_drewN ?_ _) | (with_reducible refine Kd.C_drew ?_))); (case side2 => exact HC0_1.out); (case side3 => repeat (first | exact (Kd.C_below HR0_2.out HB.out) | (with_reducible refine Kd.C_alloc ?_ _) | (with_reducible refine Kd.C_drewN ?_ _) | (with_reducible refine Kd.C_drew ?_))); (case side4 => exact HC0_2.out); (case side5 => repeat (first | exact (Kd.C_below HR0_3.out HB.out) | (with_reducible refine Kd.C_alloc ?_ _) | (with_reducible refine Kd.C_drewN ?_ _) | (with_reducible refine Kd.C_drew ?_))); (case side6 => exact HC0_3.out); (case side7 => repeat (first | exact (Kd.C_below HR0_4.out HB.out) | (with_reducible refine Kd.C_alloc ?_ _) | (with_reducible refine Kd.C_drewN ?_ _) | (with_reducible refine Kd.C_drew ?_))); (case side8 => exact HC0_4.out); (case side9 => repeat (first | exact (Kd.C_below HR1.out HB.out) | (with_reducible refine Kd.C_alloc ?_ _) | (with_reducible refine Kd.C_drewN ?_ _) | (with_reducible refine Kd.C_drew ?_))); (case side10 => exact HC1.out); (case side11 => exact Glob.below HG.out (by repeat (first | (with_reducible first | exact HB.out | apply below_alloc | apply pw_below_drewN | apply below_drew1 | refine below_set ?_ GE705.out) | exact HB.out))); rintro e w20 ⟨rfl, hb⟩; refine ⟨_, rfl, ?_⟩; have n0_ := Aside0.mk (blk_below (g := gb705) (o := .cells #[.string a0_0, .slice A0_1 l0_1.length c0_1, .slice A0_2 l0_2.length c0_2, .slice A0_3 l0_3.length c0_3, .slice A0_4 l0_4.length c0_4] 65 (0, 0)) (by (with_reducible repeat (first | refine blk_drewN ?_ _ | refine blk_drew ?_ | refine blk_alloc ?_ _)); exact BK705.out) hb); have n1_ := Aside0.mk (below_step (by repeat (first | (with_reducible first | exact HB.out | apply below_alloc | apply pw_below_drewN | apply below_drew1 | refine below_set ?_ GE705.out) | exact HB.out)) hb); clear BK705; clear HB; have BK705 := n0_; have HB := n1_; clear n0_ n1_; (try clear hb); (try clear hb2); (try clear hk); (try clear hi)))
  go_ret2
  exact ⟨by first | rfl | (simp [errW_none, errW_some] <;> rfl) | (simp [*, errW_none, errW_some] <;> rfl), by repeat (first | (with_reducible first | exact HB.out | apply below_alloc | apply pw_below_drewN | apply below_drew1 | refine below_set ?_ GE705.out) | exact HB.out)⟩
def vellumlaw04_small.f  : Option (ByteArray × (List (S105)) × List Int × (List (S115)) × (List (S139))) := some ((⟨#[116]⟩ : ByteArray), (([(⟨(⟨#[97]⟩ : ByteArray), 2, false, (⟨0, 0, 0, (⟨#[]⟩ : ByteArray)⟩ : S50)⟩ : S105), (⟨(⟨#[98]⟩ : ByteArray), 4, true, (⟨0, 0, 0, (⟨#[]⟩ : ByteArray)⟩ : S50)⟩ : S105)] : List (S105))), (([0] : List Int)), ([] : List (S115)), ([] : List (S139)))
end Go.Proofs.YtpiifdbicibelaaDoor.PA
end
