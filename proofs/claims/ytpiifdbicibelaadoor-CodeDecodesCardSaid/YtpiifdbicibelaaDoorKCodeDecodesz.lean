/- CodeDecodes: the law returns true at every input, and its arguments read as before. Conditions: as the row has them (the listed tables as the program's text lays them). -/
import Derived.Test.YtpiifdbicibelaaDoorKCodeDecodes5
section
namespace Go.Proofs.YtpiifdbicibelaaDoor.PA
open Go.RowKit Go.Proofs.YtpiifdbicibelaaDoorW.PrintWords Go.Proofs.YtpiifdbicibelaaDoorW.PrintLast Go.Proofs.YtpiifdbicibelaaDoorW.PrintMore
attribute [local go_sem] max2_int min2_int max_two min_two max_three min_three max_four min_four   -- for this text's walks alone
set_option linter.unusedVariables false
set_option linter.unusedSimpArgs false
set_option maxHeartbeats 8000000 in
set_option maxRecDepth 100000 in
theorem vellumref01_Same.calls (a0_0 : Int) (a0_1 : Int) (a0_2 : Nat) (a0_3 : ByteArray) (a1_0 : Int) (a1_1 : Int) (a1_2 : Nat) (a1_3 : ByteArray) (r : Bool) (w : World) (h : vellumref01_Same.f a0_0 a0_1 a0_2 a0_3 a1_0 a1_1 a1_2 a1_3 = some r) :
  Calls Tryd.prog 46 #[.agg #[.int .i64 a0_0, .int .i64 a0_1, .float .f64 a0_2, .string a0_3], .agg #[.int .i64 a1_0, .int .i64 a1_1, .float .f64 a1_2, .string a1_3]] w fun e w' => e = .returned (.bool r) ∧ Below w.heap.size w w' := by
 have hu50 := Tryd.underlying50
 have HB := Aside0.mk (Below.refl w.heap.size w)
 have H : (if a0_0 = a1_0 then (if a0_1 = a1_1 then (if ((a0_2 : Nat) : Int) = ((a1_2 : Nat) : Int) then (some (a0_3.toList == a1_3.toList)) else (some false)) else (some false)) else (some false)) = some r := h
 clear h
 have D : ((a0_0 == a1_0) = true ∧ (a0_0 != a1_0) = false ∧ (a0_1 == a1_1) = true ∧ (a0_1 != a1_1) = false ∧ (((a0_2 : Nat) : Int) == ((a1_2 : Nat) : Int)) = true ∧ (((a0_2 : Nat) : Int) != ((a1_2 : Nat) : Int)) = false ∧ (a0_3.toList == a1_3.toList) = r) ∨ ((a0_0 == a1_0) = true ∧ (a0_0 != a1_0) = false ∧ (a0_1 == a1_1) = true ∧ (a0_1 != a1_1) = false ∧ (((a0_2 : Nat) : Int) == ((a1_2 : Nat) : Int)) = false ∧ (((a0_2 : Nat) : Int) != ((a1_2 : Nat) : Int)) = true ∧ false = r) ∨ ((a0_0 == a1_0) = true ∧ (a0_0 != a1_0) = false ∧ (a0_1 == a1_1) = false ∧ (a0_1 != a1_1) = true ∧ false = r) ∨ ((a0_0 == a1_0) = false ∧ (a0_0 != a1_0) = true ∧ false = r) := by
  by_cases c3 : a0_0 = a1_0
  ·rw [if_pos c3] at H
   by_cases c4 : a0_1 = a1_1
   ·rw [if_pos c4] at H
    by_cases c5 : ((a0_2 : Nat) : Int) = ((a1_2 : Nat) : Int)
    ·rw [if_pos c5] at H
     exact .inl ⟨beq_iff_eq.mpr c3, bne_eq_false_iff_eq.mpr c3, beq_iff_eq.mpr c4, bne_eq_false_iff_eq.mpr c4, beq_iff_eq.mpr c5, bne_eq_false_iff_eq.mpr c5, Option.some.inj H⟩
    ·rw [if_neg c5] at H
     exact .inr (.inl ⟨beq_iff_eq.mpr c3, bne_eq_false_iff_eq.mpr c3, beq_iff_eq.mpr c4, bne_eq_false_iff_eq.mpr c4, beq_eq_false_iff_ne.mpr c5, bne_iff_ne.mpr c5, Option.some.inj H⟩)
   ·rw [if_neg c4] at H
    exact .inr (.inr (.inl ⟨beq_iff_eq.mpr c3, bne_eq_false_iff_eq.mpr c3, beq_eq_false_iff_ne.mpr c4, bne_iff_ne.mpr c4, Option.some.inj H⟩))
  ·rw [if_neg c3] at H
   exact .inr (.inr (.inr ⟨beq_eq_false_iff_ne.mpr c3, bne_iff_ne.mpr c3, Option.some.inj H⟩))
 clear H
 rcases D with ⟨c3b0, c3b1, c4b0, c4b1, c5b0, c5b1, rfl⟩ | ⟨c3b0, c3b1, c4b0, c4b1, c5b0, c5b1, rfl⟩ | ⟨c3b0, c3b1, c4b0, c4b1, rfl⟩ | ⟨c3b0, c3b1, rfl⟩
 all_goals
  go_enter Tryd.func46, Tryd.ntmps46
  go_wp2_with (first | ((with_reducible refine gate_dst (N := 2) rfl ?_); refine box_event ?hg (N := 2) ?hd (cs := #[.int .i64 a0_0, .int .i64 a0_1, .float .f64 a0_2, .string a0_3]) (t := 50) ?hr ?_; (case hd => rfl); (case hg => rfl); (case hr => first | (go_simp; done) | (go_simp; rfl)); intro gb530 hg w6 hbox hb; have n0_ := Aside0.mk (below_step (by repeat (first | (with_reducible first | exact HB.out | apply below_alloc | apply pw_below_drewN | apply below_drew1) | exact HB.out)) hb); have n1_ := Aside0.mk (hbox); have n2_ := Aside0.mk ((by rw [hg]; exact (below_size (by repeat (first | (with_reducible first | exact HB.out | apply below_alloc | apply pw_below_drewN | apply below_drew1) | exact HB.out))) : w.heap.size ≤ gb530)); have n3_ := n2_; clear HB; have HB := n0_; have BK530 := n1_; have GW530 := n2_; have GE530 := n3_; clear n0_ n1_ n2_ n3_; clear hb hbox hg) | ((with_reducible refine gate_dst (N := 3) rfl ?_); refine box_event ?hg (N := 3) ?hd (cs := #[.int .i64 a1_0, .int .i64 a1_1, .float .f64 a1_2, .string a1_3]) (t := 50) ?hr ?_; (case hd => rfl); (case hg => rfl); (case hr => first | (go_simp; done) | (go_simp; rfl)); intro gb531 hg w7 hbox hb; have n0_ := Aside0.mk (blk_below (g := gb530) (o := .cells #[.int .i64 a0_0, .int .i64 a0_1, .float .f64 a0_2, .string a0_3] 50 (0, 0)) (by (with_reducible repeat (first | refine blk_drewN ?_ _ | refine blk_drew ?_ | refine blk_alloc ?_ _)); exact BK530.out) hb); have n1_ := Aside0.mk (below_step (by repeat (first | (with_reducible first | exact HB.out | apply below_alloc | apply pw_below_drewN | apply below_drew1 | refine below_set ?_ GE530.out) | exact HB.out)) hb); have n2_ := Aside0.mk (hbox); have n3_ := Aside0.mk ((by rw [hg]; exact (below_size (by repeat (first | (with_reducible first | exact HB.out | apply below_alloc | apply pw_below_drewN | apply below_drew1 | refine below_set ?_ GE530.out) | exact HB.out))) : w.heap.size ≤ gb531)); have n4_ := n3_; have n5_ := Aside0.mk ((by rw [hg]; exact Nat.ne_of_lt (blk_lt (g := gb530) (o := .cells #[.int .i64 a0_0, .int .i64 a0_1, .float .f64 a0_2, .string a0_3] 50 (0, 0)) (by (with_reducible repeat (first | refine blk_drewN ?_ _ | refine blk_drew ?_ | refine blk_alloc ?_ _)); exact BK530.out)) : gb530 ≠ gb531)); have n6_ := Aside0.mk ((by rw [hg]; exact Nat.ne_of_gt (blk_lt (g := gb530) (o := .cells #[.int .i64 a0_0, .int .i64 a0_1, .float .f64 a0_2, .string a0_3] 50 (0, 0)) (by (with_reducible repeat (first | refine blk_drewN ?_ _ | refine blk_drew ?_ | refine blk_alloc ?_ _)); exact BK530.out)) : gb531 ≠ gb530)); clear BK530; clear HB; have BK530 := n0_; have HB := n1_; have BK531 := n2_; have GW531 := n3_; have GE531 := n4_; have NB530_531 := n5_; have NB531_530 := n6_; clear n0_ n1_ n2_ n3_ n4_ n5_ n6_; clear hb hbox hg; have hnb8 := NB530_531.out; have hnc8 := NB531_530.out; have hcz9_0 : w7.cell? ⟨gb530, 0, none⟩ = some (.int .i64 a0_0) := (blk_cell BK530.out 0).trans rfl; have hcz9_1 : w7.cell? ⟨gb530, 1, none⟩ = some (.int .i64 a0_1) := (blk_cell BK530.out 1).trans rfl; have hcz9_2 : w7.cell? ⟨gb530, 2, none⟩ = some (.float .f64 a0_2) := (blk_cell BK530.out 2).trans rfl; have hcz9_3 : w7.cell? ⟨gb530, 3, none⟩ = some (.string a0_3) := (blk_cell BK530.out 3).trans rfl; have hfz9_0 := blk_frozen BK530.out 0; have hfz9_1 := blk_frozen BK530.out 1; have hfz9_2 := blk_frozen BK530.out 2; have hfz9_3 := blk_frozen BK530.out 3; have hcz10_0 : w7.cell? ⟨gb531, 0, none⟩ = some (.int .i64 a1_0) := (blk_cell BK531.out 0).trans rfl; have hcz10_1 : w7.cell? ⟨gb531, 1, none⟩ = some (.int .i64 a1_1) := (blk_cell BK531.out 1).trans rfl; have hcz10_2 : w7.cell? ⟨gb531, 2, none⟩ = some (.float .f64 a1_2) := (blk_cell BK531.out 2).trans rfl; have hcz10_3 : w7.cell? ⟨gb531, 3, none⟩ = some (.string a1_3) := (blk_cell BK531.out 3).trans rfl; have hfz10_0 := blk_frozen BK531.out 0; have hfz10_1 := blk_frozen BK531.out 1; have hfz10_2 := blk_frozen BK531.out 2; have hfz10_3 := blk_frozen BK531.out 3))
  repeat (go_quiet (first | ((with_reducible refine gate_dst (N := 2) rfl ?_); refine box_event ?hg (N := 2) ?hd (cs := #[.int .i64 a0_0, .int .i64 a0_1, .float .f64 a0_2, .string a0_3]) (t := 50) ?hr ?_; (case hd => rfl); (case hg => rfl); (case hr => first | (go_simp; done) | (go_simp; rfl)); intro gb530 hg w6 hbox hb; have n0_ := Aside0.mk (below_step (by repeat (first | (with_reducible first | exact HB.out | apply below_alloc | apply pw_below_drewN | apply below_drew1) | exact HB.out)) hb); have n1_ := Aside0.mk (hbox); have n2_ := Aside0.mk ((by rw [hg]; exact (below_size (by repeat (first | (with_reducible first | exact HB.out | apply below_alloc | apply pw_below_drewN | apply below_drew1) | exact HB.out))) : w.heap.size ≤ gb530)); have n3_ := n2_; clear HB; have HB := n0_; have BK530 := n1_; have GW530 := n2_; have GE530 := n3_; clear n0_ n1_ n2_ n3_; clear hb hbox hg) | ((with_reducible refine gate_dst (N := 3) rfl ?_); refine box_event ?hg (N := 3) ?hd (cs := #[.int .i64 a1_0, .int .i64 a1_1, .float .f64 a1_2, .string a1_3]) (t := 50) ?hr ?_; (case hd => rfl); (case hg => rfl); (case hr => first | (go_simp; done) | (go_simp; rfl)); intro gb531 hg w7 hbox hb; have n0_ := Aside0.mk (blk_below (g := gb530) (o := .cells #[.int .i64 a0_0, .int .i64 a0_1, .float .f64 a0_2, .string a0_3] 50 (0, 0)) (by (with_reducible repeat (first | refine blk_drewN ?_ _ | refine blk_drew ?_ | refine blk_alloc ?_ _)); exact BK530.out) hb); have n1_ := Aside0.mk (below_step (by repeat (first | (with_reducible first | exact HB.out | apply below_alloc | apply pw_below_drewN | apply below_drew1 | refine below_set ?_ GE530.out) | exact HB.out)) hb); have n2_ := Aside0.mk (hbox); have n3_ := Aside0.mk ((by rw [hg]; exact (below_size (by repeat (first | (with_reducible first | exact HB.out | apply below_alloc | apply pw_below_drewN | apply below_drew1 | refine below_set ?_ GE530.out) | exact HB.out))) : w.heap.size ≤ gb531)); have n4_ := n3_; have n5_ := Aside0.mk ((by rw [hg]; exact Nat.ne_of_lt (blk_lt (g := gb530) (o := .cells #[.int .i64 a0_0, .int .i64 a0_1, .float .f64 a0_2, .string a0_3] 50 (0, 0)) (by (with_reducible repeat (first | refine blk_drewN ?_ _ | refine blk_drew ?_ | refine blk_alloc ?_ _)); exact BK530.out)) : gb530 ≠ gb531)); have n6_ := Aside0.mk ((by rw [hg]; exact Nat.ne_of_gt (blk_lt (g := gb530) (o := .cells #[.int .i64 a0_0, .int .i64 a0_1, .float .f64 a0_2, .string a0_3] 50 (0, 0)) (by (with_reducible repeat (first | refine blk_drewN ?_ _ | refine blk_drew ?_ | refine blk_alloc ?_ _)); exact BK530.out)) : gb531 ≠ gb530)); clear BK530; clear HB; have BK530 := n0_; have HB := n1_; have BK531 := n2_; have GW531 := n3_; have GE531 := n4_; have NB530_531 := n5_; have NB531_530 := n6_; clear n0_ n1_ n2_ n3_ n4_ n5_ n6_; clear hb hbox hg; have hnb8 := NB530_531.out; have hnc8 := NB531_530.out; have hcz9_0 : w7.cell? ⟨gb530, 0, none⟩ = some (.int .i64 a0_0) := (blk_cell BK530.out 0).trans rfl; have hcz9_1 : w7.cell? ⟨gb530, 1, none⟩ = some (.int .i64 a0_1) := (blk_cell BK530.out 1).trans rfl; have hcz9_2 : w7.cell? ⟨gb530, 2, none⟩ = some (.float .f64 a0_2) := (blk_cell BK530.out 2).trans rfl; have hcz9_3 : w7.cell? ⟨gb530, 3, none⟩ = some (.string a0_3) := (blk_cell BK530.out 3).trans rfl; have hfz9_0 := blk_frozen BK530.out 0; have hfz9_1 := blk_frozen BK530.out 1; have hfz9_2 := blk_frozen BK530.out 2; have hfz9_3 := blk_frozen BK530.out 3; have hcz10_0 : w7.cell? ⟨gb531, 0, none⟩ = some (.int .i64 a1_0) := (blk_cell BK531.out 0).trans rfl; have hcz10_1 : w7.cell? ⟨gb531, 1, none⟩ = some (.int .i64 a1_1) := (blk_cell BK531.out 1).trans rfl; have hcz10_2 : w7.cell? ⟨gb531, 2, none⟩ = some (.float .f64 a1_2) := (blk_cell BK531.out 2).trans rfl; have hcz10_3 : w7.cell? ⟨gb531, 3, none⟩ = some (.string a1_3) := (blk_cell BK531.out 3).trans rfl; have hfz10_0 := blk_frozen BK531.out 0; have hfz10_1 := blk_frozen BK531.out 1; have hfz10_2 := blk_frozen BK531.out 2; have hfz10_3 := blk_frozen BK531.out 3)); try go_wp2_with (first | ((with_reducible refine gate_dst (N := 2) rfl ?_); refine box_event ?hg (N := 2) ?hd (cs := #[.int .i64 a0_0, .int .i64 a0_1, .float .f64 a0_2, .string a0_3]) (t := 50) ?hr ?_; (case hd => rfl); (case hg => rfl); (case hr => first | (go_simp; done) | (go_simp; rfl)); intro gb530 hg w6 hbox hb; have n0_ := Aside0.mk (below_step (by repeat (first | (with_reducible first | exact HB.out | apply below_alloc | apply pw_below_drewN | apply below_drew1) | exact HB.out)) hb); have n1_ := Aside0.mk (hbox); have n2_ := Aside0.mk ((by rw [hg]; exact (below_size (by repeat (first | (with_reducible first | exact HB.out | apply below_alloc | apply pw_below_drewN | apply below_drew1) | exact HB.out))) : w.heap.size ≤ gb530)); have n3_ := n2_; clear HB; have HB := n0_; have BK530 := n1_; have GW530 := n2_; have GE530 := n3_; clear n0_ n1_ n2_ n3_; clear hb hbox hg) | ((with_reducible refine gate_dst (N := 3) rfl ?_); refine box_event ?hg (N := 3) ?hd (cs := #[.int .i64 a1_0, .int .i64 a1_1, .float .f64 a1_2, .string a1_3]) (t := 50) ?hr ?_; (case hd => rfl); (case hg => rfl); (case hr => first | (go_simp; done) | (go_simp; rfl)); intro gb531 hg w7 hbox hb; have n0_ := Aside0.mk (blk_below (g := gb530) (o := .cells #[.int .i64 a0_0, .int .i64 a0_1, .float .f64 a0_2, .string a0_3] 50 (0, 0)) (by (with_reducible repeat (first | refine blk_drewN ?_ _ | refine blk_drew ?_ | refine blk_alloc ?_ _)); exact BK530.out) hb); have n1_ := Aside0.mk (below_step (by repeat (first | (with_reducible first | exact HB.out | apply below_alloc | apply pw_below_drewN | apply below_drew1 | refine below_set ?_ GE530.out) | exact HB.out)) hb); have n2_ := Aside0.mk (hbox); have n3_ := Aside0.mk ((by rw [hg]; exact (below_size (by repeat (first | (with_reducible first | exact HB.out | apply below_alloc | apply pw_below_drewN | apply below_drew1 | refine below_set ?_ GE530.out) | exact HB.out))) : w.heap.size ≤ gb531)); have n4_ := n3_; have n5_ := Aside0.mk ((by rw [hg]; exact Nat.ne_of_lt (blk_lt (g := gb530) (o := .cells #[.int .i64 a0_0, .int .i64 a0_1, .float .f64 a0_2, .string a0_3] 50 (0, 0)) (by (with_reducible repeat (first | refine blk_drewN ?_ _ | refine blk_drew ?_ | refine blk_alloc ?_ _)); exact BK530.out)) : gb530 ≠ gb531)); have n6_ := Aside0.mk ((by rw [hg]; exact Nat.ne_of_gt (blk_lt (g := gb530) (o := .cells #[.int .i64 a0_0, .int .i64 a0_1, .float .f64 a0_2, .string a0_3] 50 (0, 0)) (by (with_reducible repeat (first | refine blk_drewN ?_ _ | refine blk_drew ?_ | refine blk_alloc ?_ _)); exact BK530.out)) : gb531 ≠ gb530)); clear BK530; clear HB; have BK530 := n0_; have HB := n1_; have BK531 := n2_; have GW531 := n3_; have GE531 := n4_; have NB530_531 := n5_; have NB531_530 := n6_; clear n0_ n1_ n2_ n3_ n4_ n5_ n6_; clear hb hbox hg; have hnb8 := NB530_531.out; have hnc8 := NB531_530.out; have hcz9_0 : w7.cell? ⟨gb530, 0, none⟩ = some (.int .i64 a0_0) := (blk_cell BK530.out 0).trans rfl; have hcz9_1 : w7.cell? ⟨gb530, 1, none⟩ = some (.int .i64 a0_1) := (blk_cell BK530.out 1).trans rfl; have hcz9_2 : w7.cell? ⟨gb530, 2, none⟩ = some (.float .f64 a0_2) := (blk_cell BK530.out 2).trans rfl; have hcz9_3 : w7.cell? ⟨gb530, 3, none⟩ = some (.string a0_3) := (blk_cell BK530.out 3).trans rfl; have hfz9_0 := blk_frozen BK530.out 0; have hfz9_1 := blk_frozen BK530.out 1; have hfz9_2 := blk_frozen BK530.out 2; have hfz9_3 := blk_frozen BK530.out 3; have hcz10_0 : w7.cell? ⟨gb531, 0, none⟩ = some (.int .i64 a1_0) := (blk_cell BK531.out 0).trans rfl; have hcz10_1 : w7.cell? ⟨gb531, 1, none⟩ = some (.int .i64 a1_1) := (blk_cell BK531.out 1).trans rfl; have hcz10_2 : w7.cell? ⟨gb531, 2, none⟩ = some (.float .f64 a1_2) := (blk_cell BK531.out 2).trans rfl; have hcz10_3 : w7.cell? ⟨gb531, 3, none⟩ = some (.string a1_3) := (blk_cell BK531.out 3).trans rfl; have hfz10_0 := blk_frozen BK531.out 0; have hfz10_1 := blk_frozen BK531.out 1; have hfz10_2 := blk_frozen BK531.out 2; have hfz10_3 := blk_frozen BK531.out 3)))
  go_ret
  exact ⟨by first | rfl | (simp [errW_none, errW_some] <;> rfl) | (simp [*, errW_none, errW_some] <;> rfl), by repeat (first | (with_reducible first | exact HB.out | apply below_alloc | apply pw_below_drewN | apply below_drew1 | refine below_set ?_ GE530.out | refine below_set ?_ GE531.out) | exact HB.out)⟩
def vellumref01_SameRow.l0 : Nat → List (S50) → List (S50) → Int → Option (Bool)
 | 0, _, _, _ => none
 | k + 1, x0, x1, x5 => if x5 < (x0.length : Int) then (if 0 ≤ x5 then (if x5 < (x1.length : Int) then ((vellumref01_Same.f ((rd_T50 x0 x5).f0) ((rd_T50 x0 x5).f1) ((rd_T50 x0 x5).f2) ((rd_T50 x0 x5).f3) ((rd_T50 x1 x5).f0) ((rd_T50 x1 x5).f1) ((rd_T50 x1 x5).f2) ((rd_T50 x1 x5).f3)).bind fun t534 => (if t534 = true then (vellumref01_SameRow.l0 k x0 x1 (wrap64 (x5 + 1))) else (some false))) else (none)) else (none)) else (some true)
def vellumref01_SameRow.f (k : Nat) (l0 : List (S50)) (l1 : List (S50)) : Option (Bool) := if (l0.length : Int) = (l1.length : Int) then (vellumref01_SameRow.l0 k l0 l1 0) else (some false)
def vellumref01_SameRow.T6 : Bool × List (List Nat × List Nat) := (true, [([], []), ([], []), ([0, 1], [0, 1]), ([2], [2]), ([], []), ([], []), ([4, 5], [4, 5]), ([6], [6]), ([3, 7], [3, 7]), ([8], [8])])
def vellumref01_SameRow.B6 : List Nat := [0, 0, 3, 7, 0, 0, 48, 112, 255, 511]
theorem vellumref01_SameRow.tab6 : rtab .any (opsOf Tryd.f45 6) = vellumref01_SameRow.T6 := by kernel_rfl
theorem vellumref01_SameRow.bits6 : waitsOk vellumref01_SameRow.T6.2 vellumref01_SameRow.B6 = true := by kernel_rfl
set_option maxHeartbeats 8000000 in
set_option maxRecDepth 100000 in
theorem vellumref01_SameRow.calls (k : Nat) (A0 : Option Addr) (c0 : Nat) (l0 : List (S50)) (A1 : Option Addr) (c1 : Nat) (l1 : List (S50)) (r : Bool) (w : World) (hr0 : Kd.C k50 w A0 l0.length l0) (hc0 : l0.length ≤ c0) (hr1 : Kd.C k50 w A1 l1.length l1) (hc1 : l1.length ≤ c1) (h : vellumref01_SameRow.f k l0 l1 = some r) :
  Calls Tryd.prog 45 #[.slice A0 l0.length c0, .slice A1 l1.length c1] w fun e w' => e = .returned (.bool r) ∧ Below w.heap.size w w' := by
 have hu50 := Tryd.underlying50
 have HR0 := Aside0.mk hr0
 have HC0 := Aside0.mk hc0
 clear hr0 hc0
 have HR1 := Aside0.mk hr1
 have HC1 := Aside0.mk hc1
 clear hr1 hc1
 have HB := Aside0.mk (Below.refl w.heap.size w)
 have H : (if (l0.length : Int) = (l1.length : Int) then (vellumref01_SameRow.l0 k l0 l1 0) else (some false)) = some r := h
 clear h
 by_cases c3 : (l0.length : Int) = (l1.length : Int)
 ·rw [if_pos c3] at H
  have c3b0 : ((l0.length : Int) == (l1.length : Int)) = true := beq_iff_eq.mpr c3
  have c3b1 : ((l0.length : Int) != (l1.length : Int)) = false := bne_eq_false_iff_eq.mpr c3
  have c3b2 : (l0.length == l1.length) = true := by first | simpa using c3 | (simp at c3 ⊢; omega)
  clear c3
  have H' := Aside0.mk H
  clear H
  go_enter Tryd.func45, Tryd.ntmps45
  go_wp2
  go_loopg [5] k (fun kq v5 w' => ∃ (x5_1 : Int), v5 = .int .i64 x5_1 ∧ Aside0 (vellumref01_SameRow.l0 kq l0 l1 x5_1 = some r) ∧ Aside0 (kq ≤ k) ∧ Aside0 (Below w.heap.size w w'))
  case atStart => exact ⟨(0), (by first | rfl | (simp; done) | (simp [*]; done) | (simp [bool_ne_nil]; done) | (simp; exact bool_ne_nil _)), H', ⟨Nat.le_refl _⟩, ⟨by repeat (first | (with_reducible first | exact HB.out | apply below_alloc | apply pw_below_drewN | apply below_drew1) | exact HB.out)⟩⟩
  case round =>
   clear H'
   (try clear c1); (try clear p2); (try clear c3); (try clear c3b0); (try clear c3b1); (try clear c3b2)
   obtain ⟨x5_1, rfl, HA, HK1, HB⟩ := hrel
   cases gk with
   | zero => exact absurd HA.out (by simp [vellumref01_SameRow.l0])
   | succ k1 =>
    have H := HA.out
    clear HA
    simp only [vellumref01_SameRow.l0] at H
    by_cases c4 : x5_1 < (l0.length : Int)
    ·rw [if_pos c4] at H
     have c4b0 : decide (x5_1 < (l0.length : Int)) = true := decide_eq_true c4
     clear c4
     by_cases c5 : 0 ≤ x5_1
     ·rw [if_pos c5] at H
      have c5b0 : decide (0 ≤ x5_1) = true := decide_eq_true c5
      clear c5
      by_cases c6 : x5_1 < (l1.length : Int)
      ·rw [if_pos c6] at H
       have c6b0 : decide (x5_1 < (l1.length : Int)) = true := decide_eq_true c6
       clear c6
       replace H := Option.bind_eq_some_iff.mp H
       obtain ⟨t534, A70, H⟩ := H
       replace H : (if t534 = true then (vellumref01_SameRow.l0 k1 l0 l1 (wrap64 (x5_1 + 1))) else (some false)) = some r := H
       have A7 := Aside0.mk A70
       clear A70
       by_cases c8 : t534 = true
       ·subst c8
        have H1 : (vellumref01_SameRow.l0 k1 l0 l1 (wrap64 (x5_1 + 1))) = some r := by rw [if_pos rfl] at H; exact H
        clear H
        have H := H1
        clear H1
        have H' := Aside0.mk H
        clear H
        try go_wp2
        have n0_ := Aside0.mk (below_drew1 HB.out)
        clear HB
        have HB := n0_
        clear n0_
        have p532 : 0 ≤ (x5_1 : Int) := of_decide_eq_true (by first | (with_reducible assumption) | assumption)
        have q532 : x5_1 < (l0.length : Int) := of_decide_eq_true (by first | (with_reducible assumption) | assumption)
        obtain ⟨ad532, e532, hx532_0, hx532_1, hx532_2, hx532_3⟩ := at_T50 HR0.out x5_1 p532 q532
        have hw532_3 := hx532_3
        have hw532_2 := hx532_2
        have hw532_1 := hx532_1
        have hw532_0 := hx532_0
        cases e532
        replace hx532_0 := (HB.out.cell (World.block_lt_of_cell? w _ hx532_0)).trans hx532_0
        replace hx532_1 := (HB.out.cell (World.block_lt_of_cell? w _ hx532_1)).trans hx532_1
        replace hx532_2 := (HB.out.cell (World.block_lt_of_cell? w _ hx532_2)).trans hx532_2
        replace hx532_3 := (HB.out.cell (World.block_lt_of_cell? w _ hx532_3)).trans hx532_3
        replace p532 := eq_true p532
        replace q532 := eq_true q532
        have p533 : 0 ≤ (x5_1 : Int) := of_decide_eq_true (by first | (with_reducible assumption) | assumption)
        have q533 : x5_1 < (l1.length : Int) := of_decide_eq_true (by first | (with_reducible assumption) | assumption)
        obtain ⟨ad533, e533, hx533_0, hx533_1, hx533_2, hx533_3⟩ := at_T50 HR1.out x5_1 p533 q533
        have hw533_3 := hx533_3
        have hw533_2 := hx533_2
        have hw533_1 := hx533_1
        have hw533_0 := hx533_0
        cases e533
        replace hx533_0 := (HB.out.cell (World.block_lt_of_cell? w _ hx533_0)).trans hx533_0
        replace hx533_1 := (HB.out.cell (World.block_lt_of_cell? w _ hx533_1)).trans hx533_1
        replace hx533_2 := (HB.out.cell (World.block_lt_of_cell? w _ hx533_2)).trans hx533_2
        replace hx533_3 := (HB.out.cell (World.block_lt_of_cell? w _ hx533_3)).trans hx533_3
        replace p533 := eq_true p533
        replace q533 := eq_true q533
        refine start_ (n := 10) (S := fun w' => w'.cell? (ad532.add ((x5_1).toNat * 4)) = some (.int .i64 ((rd_T50 l0 x5_1).f0)) ∧ w'.cell? ⟨(ad532.add ((x5_1).toNat * 4)).block, (ad532.add ((x5_1).toNat * 4)).off + 1, none⟩ = some (.int .i64 ((rd_T50 l0 x5_1).f1)) ∧ w'.cell? ⟨(ad532.add ((x5_1).toNat * 4)).block, (ad532.add ((x5_1).toNat * 4)).off + 2, none⟩ = some (.float .f64 ((rd_T50 l0 x5_1).f2)) ∧ w'.cell? ⟨(ad532.add ((x5_1).toNat * 4)).block, (ad532.add ((x5_1).toNat * 4)).off + 3, none⟩ = some (.string ((rd_T50 l0 x5_1).f3)) ∧ w'.cell? (ad533.add ((x5_1).toNat * 4)) = some (.int .i64 ((rd_T50 l1 x5_1).f0)) ∧ w'.cell? ⟨(ad533.add ((x5_1).toNat * 4)).block, (ad533.add ((x5_1).toNat * 4)).off + 1, none⟩ = some (.int .i64 ((rd_T50 l1 x5_1).f1)) ∧ w'.cell? ⟨(ad533.add ((x5_1).toNat * 4)).block, (ad533.add ((x5_1).toNat * 4)).off + 2, none⟩ = some (.float .f64 ((rd_T50 l1 x5_1).f2)) ∧ w'.cell? ⟨(ad533.add ((x5_1).toNat * 4)).block, (ad533.add ((x5_1).toNat * 4)).off + 3, none⟩ = some (.string ((rd_T50 l1 x5_1).f3))) (ds := []) #[false, false, false, false, false, false, false, false, false, false] (by kernel_rfl) rfl rfl ⟨((HB.out.cell (World.block_lt_of_cell? w _ hw532_0)).trans hw532_0), ((HB.out.cell (World.block_lt_of_cell? w _ hw532_1)).trans hw532_1), ((HB.out.cell (World.block_lt_of_cell? w _ hw532_2)).trans hw532_2), ((HB.out.cell (World.block_lt_of_cell? w _ hw532_3)).trans hw532_3), ((HB.out.cell (World.block_lt_of_cell? w _ hw533_0)).trans hw533_0), ((HB.out.cell (World.block_lt_of_cell? w _ hw533_1)).trans hw533_1), ((HB.out.cell (World.block_lt_of_cell? w _ hw533_2)).trans hw533_2), ((HB.out.cell (World.block_lt_of_cell? w _ hw533_3)).trans hw533_3)⟩ (fun hHeld => ?_); refine with_tabW vellumref01_SameRow.tab6 vellumref01_SameRow.bits6 (fun HT_ HW_ => ?_)
        generalize wr.drew = w9 at HB hx532_0 hx532_1 hx532_2 hx532_3 hx533_0 hx533_1 hx533_2 hx533_3 hHeld ⊢
        refine pure_ (i := 0) (N := some 17) (v := ?_) (a' := ?_) #[true, false, false, false, false, false, false, false, false, false] rfl rfl (any_of HT_.out (by kernel_rfl)) (fun _ _ _ h => h) (Or.inl ⟨by rfl, ?_⟩) ?_ ?_
        rotate_left
        ·intro w'
         go_simp
         with_reducible rfl
        rotate_left
        ·simp only [Act.put, List.setIfInBounds_toArray, List.set_cons_zero, List.set_cons_succ, i64_w, i32_w]
         rfl
        refine pure_ (i := 1) (N := some 18) (v := ?_) (a' := ?_) #[true, true, false, false, false, false, false, false, false, false] rfl rfl (any_of HT_.out (by kernel_rfl)) (fun _ _ _ h => h) (Or.inl ⟨by rfl, ?_⟩) ?_ ?_
        rotate_left
        ·intro w'
         go_simp
         with_reducible rfl
        rotate_left
        ·simp only [Act.put, List.setIfInBounds_toArray, List.set_cons_zero, List.set_cons_succ, i64_w, i32_w]
         rfl
        refine pure_ (i := 2) (N := some 19) (v := ?_) (a' := ?_) #[true, true, true, false, false, false, false, false, false, false] rfl rfl (any_of HT_.out (by kernel_rfl)) (fun _ _ _ h => h) (Or.inl ⟨by rfl, ?_⟩) ?_ ?_
        rotate_left
        ·intro w'
         go_simp
         with_reducible rfl
        rotate_left
        ·simp only [Act.put, List.setIfInBounds_toArray, List.set_cons_zero, List.set_cons_succ, i64_w, i32_w]
         rfl
        refine pure_ (i := 4) (N := some 21) (v := ?_) (a' := ?_) #[true, true, true, false, true, false, false, false, false, false] rfl rfl (any_of HT_.out (by kernel_rfl)) (fun _ _ _ h => h) (Or.inl ⟨by rfl, ?_⟩) ?_ ?_
        rotate_left
        ·intro w'
         go_simp
         with_reducible rfl
        rotate_left
        ·simp only [Act.put, List.setIfInBounds_toArray, List.set_cons_zero, List.set_cons_succ, i64_w, i32_w]
         rfl
        refine pure_ (i := 5) (N := some 22) (v := ?_) (a' := ?_) #[true, true, true, false, true, true, false, false, false, false] rfl rfl (any_of HT_.out (by kernel_rfl)) (fun _ _ _ h => h) (Or.inl ⟨by rfl, ?_⟩) ?_ ?_
        rotate_left
        ·intro w'
         go_simp
         with_reducible rfl
        rotate_left
        ·simp only [Act.put, List.setIfInBounds_toArray, List.set_cons_zero, List.set_cons_succ, i64_w, i32_w]
         rfl
        refine pure_ (i := 6) (N := some 23) (v := ?_) (a' := ?_) #[true, true, true, false, true, true, true, false, false, false] rfl rfl (any_of HT_.out (by kernel_rfl)) (fun _ _ _ h => h) (Or.inl ⟨by rfl, ?_⟩) ?_ ?_
        rotate_left
        ·intro w'
         go_simp
         with_reducible rfl
        rotate_left
        ·simp only [Act.put, List.setIfInBounds_toArray, List.set_cons_zero, List.set_cons_succ, i64_w, i32_w]
         rfl
        refine take_ (i := 3) (N := some 20) (v := ?_) (a' := ?_) #[true, true, true, true, true, true, true, false, false, false] rfl rfl (take_ofW HT_.out HW_.out (by kernel_rfl)) (fun _ _ _ h => h) (Or.inl ⟨by rfl, ?_⟩) hHeld ?_ ?_
        rotate_left
        ·rintro w' ⟨s0, s1, s2, s3, s4, s5, s6, s7⟩
         go_simp
         with_reducible rfl
        rotate_left
        ·simp only [Act.put, List.setIfInBounds_toArray, List.set_cons_zero, List.set_cons_succ, i64_w, i32_w]
         rfl
        refine take_ (i := 7) (N := some 24) (v := ?_) (a' := ?_) #[true, true, true, true, true, true, true, true, false, false] rfl rfl (take_ofW HT_.out HW_.out (by kernel_rfl)) (fun _ _ _ h => h) (Or.inl ⟨by rfl, ?_⟩) hHeld ?_ ?_
        rotate_left
        ·rintro w' ⟨s0, s1, s2, s3, s4, s5, s6, s7⟩
         go_simp
         with_reducible rfl
        rotate_left
        ·simp only [Act.put, List.setIfInBounds_toArray, List.set_cons_zero, List.set_cons_succ, i64_w, i32_w]
         rfl
        refine one_ (i := 8) (N := some 25) #[true, true, true, true, true, true, true, true, true, false] rfl rfl (one_of HT_.out (by kernel_rfl)) (by decide) (fun K hK => ?_)
        refine goes_ Tryd.func46 (by kernel_rfl) rfl #[.agg #[.int .i64 ((rd_T50 l0 x5_1).f0), .int .i64 ((rd_T50 l0 x5_1).f1), .float .f64 ((rd_T50 l0 x5_1).f2), .string ((rd_T50 l0 x5_1).f3)], .agg #[.int .i64 ((rd_T50 l1 x5_1).f0), .int .i64 ((rd_T50 l1 x5_1).f1), .float .f64 ((rd_T50 l1 x5_1).f2), .string ((rd_T50 l1 x5_1).f3)]] (by rfl) rfl rfl (by (try simp only [List.map_toArray, List.map_cons, List.map_nil]); first | done | rfl | (simp only [List.length_drop, List.length_take]; rfl)) ?_
        with_reducible refine (vellumref01_Same.calls ((rd_T50 l0 x5_1).f0) ((rd_T50 l0 x5_1).f1) ((rd_T50 l0 x5_1).f2) ((rd_T50 l0 x5_1).f3) ((rd_T50 l1 x5_1).f0) ((rd_T50 l1 x5_1).f1) ((rd_T50 l1 x5_1).f2) ((rd_T50 l1 x5_1).f3) true _ A7.out).mono ?_
        rintro e w10 ⟨rfl, hb⟩
        refine ⟨_, rfl, ?_⟩
        have n0_ := Aside0.mk (below_step (by repeat (first | (with_reducible first | exact HB.out | apply below_alloc | apply pw_below_drewN | apply below_drew1) | exact HB.out)) hb)
        clear HB
        have HB := n0_
        clear n0_
        (try clear hb)
        (try clear hb2)
        (try clear hk)
        (try clear hi)
        refine hK.out _ _ ⟨((HB.out.cell (World.block_lt_of_cell? w _ hw532_0)).trans hw532_0), ((HB.out.cell (World.block_lt_of_cell? w _ hw532_1)).trans hw532_1), ((HB.out.cell (World.block_lt_of_cell? w _ hw532_2)).trans hw532_2), ((HB.out.cell (World.block_lt_of_cell? w _ hw532_3)).trans hw532_3), ((HB.out.cell (World.block_lt_of_cell? w _ hw533_0)).trans hw533_0), ((HB.out.cell (World.block_lt_of_cell? w _ hw533_1)).trans hw533_1), ((HB.out.cell (World.block_lt_of_cell? w _ hw533_2)).trans hw533_2), ((HB.out.cell (World.block_lt_of_cell? w _ hw533_3)).trans hw533_3)⟩ (fun hHeld => ?_)
        clear hK K
        refine norm_ (a' := ?_) ?_ ?_
        rotate_left
        ·show Act.put _ (some 25) _ = _
         simp only [Act.put, List.setIfInBounds_toArray, List.set_cons_zero, List.set_cons_succ, i64_w, i32_w]
         rfl
        refine pure_ (i := 9) (N := some 26) (v := ?_) (a' := ?_) #[true, true, true, true, true, true, true, true, true, true] rfl rfl (any_of HT_.out (by kernel_rfl)) (fun _ _ _ h => h) (Or.inl ⟨by rfl, ?_⟩) ?_ ?_
        rotate_left
        ·intro w'
         go_simp
         with_reducible rfl
        rotate_left
        ·simp only [Act.put, List.setIfInBounds_toArray, List.set_cons_zero, List.set_cons_succ, i64_w, i32_w]
         rfl
        refine done_ (done_of HT_.out (by kernel_rfl)) ?_
        try go_wp2
        go_roundg k1
        case measure => have := HK1.out; omega
        case rel => exact ⟨(wrap64 (x5_1 + 1)), (by first | rfl | (simp; done) | (simp [*]; done) | (simp [bool_ne_nil]; done) | (simp; exact bool_ne_nil _)), H', ⟨by have := HK1.out; omega⟩, ⟨by repeat (first | (with_reducible first | exact HB.out | apply below_alloc | apply pw_below_drewN | apply below_drew1) | exact HB.out)⟩⟩
       ·replace c8 := Bool.eq_false_iff.mpr c8
        subst c8
        have H1 : (some false) = some r := by rw [if_neg (show ¬ (false = true) by decide)] at H; exact H
        clear H
        have H := H1
        clear H1
        obtain rfl := Option.some.inj H
        try go_wp2
        have n0_ := Aside0.mk (below_drew1 HB.out)
        clear HB
        have HB := n0_
        clear n0_
        have p532 : 0 ≤ (x5_1 : Int) := of_decide_eq_true (by first | (with_reducible assumption) | assumption)
        have q532 : x5_1 < (l0.length : Int) := of_decide_eq_true (by first | (with_reducible assumption) | assumption)
        obtain ⟨ad532, e532, hx532_0, hx532_1, hx532_2, hx532_3⟩ := at_T50 HR0.out x5_1 p532 q532
        have hw532_3 := hx532_3
        have hw532_2 := hx532_2
        have hw532_1 := hx532_1
        have hw532_0 := hx532_0
        cases e532
        replace hx532_0 := (HB.out.cell (World.block_lt_of_cell? w _ hx532_0)).trans hx532_0
        replace hx532_1 := (HB.out.cell (World.block_lt_of_cell? w _ hx532_1)).trans hx532_1
        replace hx532_2 := (HB.out.cell (World.block_lt_of_cell? w _ hx532_2)).trans hx532_2
        replace hx532_3 := (HB.out.cell (World.block_lt_of_cell? w _ hx532_3)).trans hx532_3
        replace p532 := eq_true p532
        replace q532 := eq_true q532
        have p533 : 0 ≤ (x5_1 : Int) := of_decide_eq_true (by first | (with_reducible assumption) | assumption)
        have q533 : x5_1 < (l1.length : Int) := of_decide_eq_true (by first | (with_reducible assumption) | assumption)
        obtain ⟨ad533, e533, hx533_0, hx533_1, hx533_2, hx533_3⟩ := at_T50 HR1.out x5_1 p533 q533
        have hw533_3 := hx533_3
        have hw533_2 := hx533_2
        have hw533_1 := hx533_1
        have hw533_0 := hx533_0
        cases e533
        replace hx533_0 := (HB.out.cell (World.block_lt_of_cell? w _ hx533_0)).trans hx533_0
        replace hx533_1 := (HB.out.cell (World.block_lt_of_cell? w _ hx533_1)).trans hx533_1
        replace hx533_2 := (HB.out.cell (World.block_lt_of_cell? w _ hx533_2)).trans hx533_2
        replace hx533_3 := (HB.out.cell (World.block_lt_of_cell? w _ hx533_3)).trans hx533_3
        replace p533 := eq_true p533
        replace q533 := eq_true q533
        refine start_ (n := 10) (S := fun w' => w'.cell? (ad532.add ((x5_1).toNat * 4)) = some (.int .i64 ((rd_T50 l0 x5_1).f0)) ∧ w'.cell? ⟨(ad532.add ((x5_1).toNat * 4)).block, (ad532.add ((x5_1).toNat * 4)).off + 1, none⟩ = some (.int .i64 ((rd_T50 l0 x5_1).f1)) ∧ w'.cell? ⟨(ad532.add ((x5_1).toNat * 4)).block, (ad532.add ((x5_1).toNat * 4)).off + 2, none⟩ = some (.float .f64 ((rd_T50 l0 x5_1).f2)) ∧ w'.cell? ⟨(ad532.add ((x5_1).toNat * 4)).block, (ad532.add ((x5_1).toNat * 4)).off + 3, none⟩ = some (.string ((rd_T50 l0 x5_1).f3)) ∧ w'.cell? (ad533.add ((x5_1).toNat * 4)) = some (.int .i64 ((rd_T50 l1 x5_1).f0)) ∧ w'.cell? ⟨(ad533.add ((x5_1).toNat * 4)).block, (ad533.add ((x5_1).toNat * 4)).off + 1, none⟩ = some (.int .i64 ((rd_T50 l1 x5_1).f1)) ∧ w'.cell? ⟨(ad533.add ((x5_1).toNat * 4)).block, (ad533.add ((x5_1).toNat * 4)).off + 2, none⟩ = some (.float .f64 ((rd_T50 l1 x5_1).f2)) ∧ w'.cell? ⟨(ad533.add ((x5_1).toNat * 4)).block, (ad533.add ((x5_1).toNat * 4)).off + 3, none⟩ = some (.string ((rd_T50 l1 x5_1).f3))) (ds := []) #[false, false, false, false, false, false, false, false, false, false] (by kernel_rfl) rfl rfl ⟨((HB.out.cell (World.block_lt_of_cell? w _ hw532_0)).trans hw532_0), ((HB.out.cell (World.block_lt_of_cell? w _ hw532_1)).trans hw532_1), ((HB.out.cell (World.block_lt_of_cell? w _ hw532_2)).trans hw532_2), ((HB.out.cell (World.block_lt_of_cell? w _ hw532_3)).trans hw532_3), ((HB.out.cell (World.block_lt_of_cell? w _ hw533_0)).trans hw533_0), ((HB.out.cell (World.block_lt_of_cell? w _ hw533_1)).trans hw533_1), ((HB.out.cell (World.block_lt_of_cell? w _ hw533_2)).trans hw533_2), ((HB.out.cell (World.block_lt_of_cell? w _ hw533_3)).trans hw533_3)⟩ (fun hHeld => ?_); refine with_tabW vellumref01_SameRow.tab6 vellumref01_SameRow.bits6 (fun HT_ HW_ => ?_)
        generalize wr.drew = w11 at HB hx532_0 hx532_1 hx532_2 hx532_3 hx533_0 hx533_1 hx533_2 hx533_3 hHeld ⊢
        refine pure_ (i := 0) (N := some 17) (v := ?_) (a' := ?_) #[true, false, false, false, false, false, false, false, false, false] rfl rfl (any_of HT_.out (by kernel_rfl)) (fun _ _ _ h => h) (Or.inl ⟨by rfl, ?_⟩) ?_ ?_
        rotate_left
        ·intro w'
         go_simp
         with_reducible rfl
        rotate_left
        ·simp only [Act.put, List.setIfInBounds_toArray, List.set_cons_zero, List.set_cons_succ, i64_w, i32_w]
         rfl
        refine pure_ (i := 1) (N := some 18) (v := ?_) (a' := ?_) #[true, true, false, false, false, false, false, false, false, false] rfl rfl (any_of HT_.out (by kernel_rfl)) (fun _ _ _ h => h) (Or.inl ⟨by rfl, ?_⟩) ?_ ?_
        rotate_left
        ·intro w'
         go_simp
         with_reducible rfl
        rotate_left
        ·simp only [Act.put, List.setIfInBounds_toArray, List.set_cons_zero, List.set_cons_succ, i64_w, i32_w]
         rfl
        refine pure_ (i := 2) (N := some 19) (v := ?_) (a' := ?_) #[true, true, true, false, false, false, false, false, false, false] rfl rfl (any_of HT_.out (by kernel_rfl)) (fun _ _ _ h => h) (Or.inl ⟨by rfl, ?_⟩) ?_ ?_
        rotate_left
        ·intro w'
         go_simp
         with_reducible rfl
        rotate_left
        ·simp only [Act.put, List.setIfInBounds_toArray, List.set_cons_zero, List.set_cons_succ, i64_w, i32_w]
         rfl
        refine pure_ (i := 4) (N := some 21) (v := ?_) (a' := ?_) #[true, true, true, false, true, false, false, false, false, false] rfl rfl (any_of HT_.out (by kernel_rfl)) (fun _ _ _ h => h) (Or.inl ⟨by rfl, ?_⟩) ?_ ?_
        rotate_left
        ·intro w'
         go_simp
         with_reducible rfl
        rotate_left
        ·simp only [Act.put, List.setIfInBounds_toArray, List.set_cons_zero, List.set_cons_succ, i64_w, i32_w]
         rfl
        refine pure_ (i := 5) (N := some 22) (v := ?_) (a' := ?_) #[true, true, true, false, true, true, false, false, false, false] rfl rfl (any_of HT_.out (by kernel_rfl)) (fun _ _ _ h => h) (Or.inl ⟨by rfl, ?_⟩) ?_ ?_
        rotate_left
        ·intro w'
         go_simp
         with_reducible rfl
        rotate_left
        ·simp only [Act.put, List.setIfInBounds_toArray, List.set_cons_zero, List.set_cons_succ, i64_w, i32_w]
         rfl
        refine pure_ (i := 6) (N := some 23) (v := ?_) (a' := ?_) #[true, true, true, false, true, true, true, false, false, false] rfl rfl (any_of HT_.out (by kernel_rfl)) (fun _ _ _ h => h) (Or.inl ⟨by rfl, ?_⟩) ?_ ?_
        rotate_left
        ·intro w'
         go_simp
         with_reducible rfl
        rotate_left
        ·simp only [Act.put, List.setIfInBounds_toArray, List.set_cons_zero, List.set_cons_succ, i64_w, i32_w]
         rfl
        refine take_ (i := 3) (N := some 20) (v := ?_) (a' := ?_) #[true, true, true, true, true, true, true, false, false, false] rfl rfl (take_ofW HT_.out HW_.out (by kernel_rfl)) (fun _ _ _ h => h) (Or.inl ⟨by rfl, ?_⟩) hHeld ?_ ?_
        rotate_left
        ·rintro w' ⟨s0, s1, s2, s3, s4, s5, s6, s7⟩
         go_simp
         with_reducible rfl
        rotate_left
        ·simp only [Act.put, List.setIfInBounds_toArray, List.set_cons_zero, List.set_cons_succ, i64_w, i32_w]
         rfl
        refine take_ (i := 7) (N := some 24) (v := ?_) (a' := ?_) #[true, true, true, true, true, true, true, true, false, false] rfl rfl (take_ofW HT_.out HW_.out (by kernel_rfl)) (fun _ _ _ h => h) (Or.inl ⟨by rfl, ?_⟩) hHeld ?_ ?_
        rotate_left
        ·rintro w' ⟨s0, s1, s2, s3, s4, s5, s6, s7⟩
         go_simp
         with_reducible rfl
        rotate_left
        ·simp only [Act.put, List.setIfInBounds_toArray, List.set_cons_zero, List.set_cons_succ, i64_w, i32_w]
         rfl
        refine one_ (i := 8) (N := some 25) #[true, true, true, true, true, true, true, true, true, false] rfl rfl (one_of HT_.out (by kernel_rfl)) (by decide) (fun K hK => ?_)
        refine goes_ Tryd.func46 (by kernel_rfl) rfl #[.agg #[.int .i64 ((rd_T50 l0 x5_1).f0), .int .i64 ((rd_T50 l0 x5_1).f1), .float .f64 ((rd_T50 l0 x5_1).f2), .string ((rd_T50 l0 x5_1).f3)], .agg #[.int .i64 ((rd_T50 l1 x5_1).f0), .int .i64 ((rd_T50 l1 x5_1).f1), .float .f64 ((rd_T50 l1 x5_1).f2), .string ((rd_T50 l1 x5_1).f3)]] (by rfl) rfl rfl (by (try simp only [List.map_toArray, List.map_cons, List.map_nil]); first | done | rfl | (simp only [List.length_drop, List.length_take]; rfl)) ?_
        with_reducible refine (vellumref01_Same.calls ((rd_T50 l0 x5_1).f0) ((rd_T50 l0 x5_1).f1) ((rd_T50 l0 x5_1).f2) ((rd_T50 l0 x5_1).f3) ((rd_T50 l1 x5_1).f0) ((rd_T50 l1 x5_1).f1) ((rd_T50 l1 x5_1).f2) ((rd_T50 l1 x5_1).f3) false _ A7.out).mono ?_
        rintro e w12 ⟨rfl, hb⟩
        refine ⟨_, rfl, ?_⟩
        have n0_ := Aside0.mk (below_step (by repeat (first | (with_reducible first | exact HB.out | apply below_alloc | apply pw_below_drewN | apply below_drew1) | exact HB.out)) hb)
        clear HB
        have HB := n0_
        clear n0_
        (try clear hb)
        (try clear hb2)
        (try clear hk)
        (try clear hi)
        refine hK.out _ _ ⟨((HB.out.cell (World.block_lt_of_cell? w _ hw532_0)).trans hw532_0), ((HB.out.cell (World.block_lt_of_cell? w _ hw532_1)).trans hw532_1), ((HB.out.cell (World.block_lt_of_cell? w _ hw532_2)).trans hw532_2), ((HB.out.cell (World.block_lt_of_cell? w _ hw532_3)).trans hw532_3), ((HB.out.cell (World.block_lt_of_cell? w _ hw533_0)).trans hw533_0), ((HB.out.cell (World.block_lt_of_cell? w _ hw533_1)).trans hw533_1), ((HB.out.cell (World.block_lt_of_cell? w _ hw533_2)).trans hw533_2), ((HB.out.cell (World.block_lt_of_cell? w _ hw533_3)).trans hw533_3)⟩ (fun hHeld => ?_)
        clear hK K
        refine norm_ (a' := ?_) ?_ ?_
        rotate_left
        ·show Act.put _ (some 25) _ = _
         simp only [Act.put, List.setIfInBounds_toArray, List.set_cons_zero, List.set_cons_succ, i64_w, i32_w]
         rfl
        refine pure_ (i := 9) (N := some 26) (v := ?_) (a' := ?_) #[true, true, true, true, true, true, true, true, true, true] rfl rfl (any_of HT_.out (by kernel_rfl)) (fun _ _ _ h => h) (Or.inl ⟨by rfl, ?_⟩) ?_ ?_
        rotate_left
        ·intro w'
         go_simp
         with_reducible rfl
        rotate_left
        ·simp only [Act.put, List.setIfInBounds_toArray, List.set_cons_zero, List.set_cons_succ, i64_w, i32_w]
         rfl
        refine done_ (done_of HT_.out (by kernel_rfl)) ?_
        try go_wp2
        go_ret
        exact ⟨by first | rfl | (simp [errW_none, errW_some] <;> rfl) | (simp [*, errW_none, errW_some] <;> rfl), by repeat (first | (with_reducible first | exact HB.out | apply below_alloc | apply pw_below_drewN | apply below_drew1) | exact HB.out)⟩
      ·rw [if_neg c6] at H
       exact absurd H (by simp)
     ·rw [if_neg c5] at H
      exact absurd H (by simp)
    ·rw [if_neg c4] at H
     have c4b0 : decide (x5_1 < (l0.length : Int)) = false := decide_eq_false c4
     clear c4
     obtain rfl := Option.some.inj H
     go_wp2
     go_ret
     exact ⟨by first | rfl | (simp [errW_none, errW_some] <;> rfl) | (simp [*, errW_none, errW_some] <;> rfl), by repeat (first | (with_reducible first | exact HB.out | apply below_alloc | apply pw_below_drewN | apply below_drew1) | exact HB.out)⟩
 ·rw [if_neg c3] at H
  have c3b0 : ((l0.length : Int) == (l1.length : Int)) = false := beq_eq_false_iff_ne.mpr c3
  have c3b1 : ((l0.length : Int) != (l1.length : Int)) = true := bne_iff_ne.mpr c3
  have c3b2 : (l0.length == l1.length) = false := by first | simpa using c3 | (simp at c3 ⊢; omega)
  obtain rfl := Option.some.inj H
  go_enter Tryd.func45, Tryd.ntmps45
  go_wp2
  go_ret
  exact ⟨by first | rfl | (simp [errW_none, errW_some] <;> rfl) | (simp [*, errW_none, errW_some] <;> rfl), by repeat (first | (with_reducible first | exact HB.out | apply below_alloc | apply pw_below_drewN | apply below_drew1) | exact HB.out)⟩
def vellumlaw02_CodeDecodes.f (k : Nat) (a0 : ByteArray) : Option (Bool) := (code_Decode.f k a0).bind fun bt535 => ((vellumref02_Decode.f k a0).bind fun bt539 => (if bt535.2 = bt539.2 then ((vellumref01_SameRow.f k bt535.1 bt539.1).bind fun t543 => (if t543 = true then ((vellumlaw02_awake.f k).bind fun t544 => (some t544)) else (some false))) else (some false)))
set_option maxHeartbeats 8000000 in
set_option maxRecDepth 100000 in
theorem vellumlaw02_CodeDecodes.calls (k : Nat) (a0 : ByteArray) (r : Bool) (w : World) (hG : Glob w) (h : vellumlaw02_CodeDecodes.f k a0 = some r) :
  Calls Tryd.prog 8 #[.string a0] w fun e w' => e = .returned (.bool r) ∧ Below w.heap.size w w' := by
 have HG := Aside0.mk hG
 clear hG
 have HB := Aside0.mk (Below.refl w.heap.size w)
 have H : ((code_Decode.f k a0).bind fun bt535 => ((vellumref02_Decode.f k a0).bind fun bt539 => (if bt535.2 = bt539.2 then ((vellumref01_SameRow.f k bt535.1 bt539.1).bind fun t543 => (if t543 = true then ((vellumlaw02_awake.f k).bind fun t544 => (some t544)) else (some false))) else (some false)))) = some r := h
 clear h
 replace H := Option.bind_eq_some_iff.mp H
 obtain ⟨⟨t535, t536⟩, A20, H⟩ := H
 replace H : ((vellumref02_Decode.f k a0).bind fun bt539 => (if t536 = bt539.2 then ((vellumref01_SameRow.f k t535 bt539.1).bind fun t543 => (if t543 = true then ((vellumlaw02_awake.f k).bind fun t544 => (some t544)) else (some false))) else (some false))) = some r := H
 have A2 := Aside0.mk A20
 clear A20
 replace H := Option.bind_eq_some_iff.mp H
 obtain ⟨⟨t539, t540⟩, A30, H⟩ := H
 replace H : (if t536 = t540 then ((vellumref01_SameRow.f k t535 t539).bind fun t543 => (if t543 = true then ((vellumlaw02_awake.f k).bind fun t544 => (some t544)) else (some false))) else (some false)) = some r := H
 have A3 := Aside0.mk A30
 clear A30
 by_cases c4 : t536 = t540
 ·rw [if_pos c4] at H
  have c4b0 : (t536 == t540) = true := beq_iff_eq.mpr c4
  have c4b1 : (t536 != t540) = false := bne_eq_false_iff_eq.mpr c4
  clear c4
  replace H := Option.bind_eq_some_iff.mp H
  obtain ⟨t543, A50, H⟩ := H
  replace H : (if t543 = true then ((vellumlaw02_awake.f k).bind fun t544 => (some t544)) else (some false)) = some r := H
  have A5 := Aside0.mk A50
  clear A50
  by_cases c6 : t543 = true
  ·subst c6
   have H1 : ((vellumlaw02_awake.f k).bind fun t544 => (some t544)) = some r := by rw [if_pos rfl] at H; exact H
   clear H
   have H := H1
   clear H1
   replace H := Option.bind_eq_some_iff.mp H
   obtain ⟨t544, A70, H⟩ := H
   replace H : (some t544) = some r := H
   have A7 := Aside0.mk A70
   clear A70
   obtain rfl := Option.some.inj H
   go_enter Tryd.func8, Tryd.ntmps8
   go_wp2_with (first | ((with_reducible refine gate_callee (f := 43) rfl ?_); refine goesL_ (some 9) rfl rfl Tryd.func43 (by kernel_rfl) rfl #[.string a0] rfl (by (try simp only [List.map_toArray, List.map_cons, List.map_nil]); first | done | rfl | (simp only [List.length_drop, List.length_take]; rfl)) ?_; (with_reducible refine (code_Decode.calls k a0 t535 t536 _ ?side1 A2.out).mono ?_); (case side1 => exact Glob.below HG.out (by repeat (first | (with_reducible first | exact HB.out | apply below_alloc | apply pw_below_drewN | apply below_drew1) | exact HB.out))); rintro e w8 ⟨v537, rfl, ho0, hb⟩; refine ⟨_, rfl, ?_⟩; have n0_ := Aside0.mk (Kd.R_lower ho0 (below_size (by repeat (first | (with_reducible first | exact HB.out | apply below_alloc | apply pw_below_drewN | apply below_drew1) | exact HB.out)))); have n1_ := Aside0.mk (below_step (by repeat (first | (with_reducible first | exact HB.out | apply below_alloc | apply pw_below_drewN | apply below_drew1) | exact HB.out)) hb); clear HB; have HO538 := n0_; have HB := n1_; clear n0_ n1_; (try clear hb); (try clear hb2); (try clear hk); (try clear hi); (try clear ho0)) | ((with_reducible refine gate_callee (f := 44) rfl ?_); refine goesL_ (some 14) rfl rfl Tryd.func44 (by kernel_rfl) rfl #[.string a0] rfl (by (try simp only [List.map_toArray, List.map_cons, List.map_nil]); first | done | rfl | (simp only [List.length_drop, List.length_take]; rfl)) ?_; (with_reducible refine (vellumref02_Decode.calls k a0 t539 t540 _ ?side1 A3.out).mono ?_); (case side1 => exact Glob.below HG.out (by repeat (first | (with_reducible first | exact HB.out | apply below_alloc | apply pw_below_drewN | apply below_drew1) | exact HB.out))); rintro e w9 ⟨v541, rfl, ho0, hb⟩; refine ⟨_, rfl, ?_⟩; have n0_ := Aside0.mk (Kd.R_elder' (by (with_reducible repeat (first | apply Kd.R_alloc | apply Kd.R_drewN | apply Kd.R_drew)); exact HO538.out) (Kd.R_base ho0) hb); have n1_ := Aside0.mk (Kd.R_lower (Kd.R_new' ho0 (Kd.R_lt (by (with_reducible repeat (first | apply Kd.R_alloc | apply Kd.R_drewN | apply Kd.R_drew)); exact HO538.out))) (below_size (by repeat (first | (with_reducible first | exact HB.out | apply below_alloc | apply pw_below_drewN | apply below_drew1) | exact HB.out)))); have n2_ := Aside0.mk (below_step (by repeat (first | (with_reducible first | exact HB.out | apply below_alloc | apply pw_below_drewN | apply below_drew1) | exact HB.out)) hb); clear HO538; clear HB; have HO538 := n0_; have HO542 := n1_; have HB := n2_; clear n0_ n1_ n2_; (try clear hb); (try clear hb2); (try clear hk); (try clear hi); (try clear ho0); obtain ⟨Ao10, co10, eo10⟩ := Kd.R_slice HO538.out; subst eo10; obtain ⟨Ao11, co11, eo11⟩ := Kd.R_slice HO542.out; subst eo11) | (go_at_call 45; (with_reducible refine (vellumref01_SameRow.calls k _ _ t535 _ _ t539 true _ ?side1 ?side2 ?side3 ?side4 A5.out).mono ?_); (case side1 => repeat (first | exact (Kd.R_reads' HO538.out).2.2 | (with_reducible refine Kd.C_alloc ?_ _) | (with_reducible refine Kd.C_drewN ?_ _) | (with_reducible refine Kd.C_drew ?_))); (case side2 => exact (Kd.R_reads' HO538.out).2.1); (case side3 => repeat (first | exact (Kd.R_reads' HO542.out).2.2 | (with_reducible refine Kd.C_alloc ?_ _) | (with_reducible refine Kd.C_drewN ?_ _) | (with_reducible refine Kd.C_drew ?_))); (case side4 => exact (Kd.R_reads' HO542.out).2.1); rintro e w12 ⟨rfl, hb⟩; have n0_ := Aside0.mk (Kd.R_below (by (with_reducible repeat (first | apply Kd.R_alloc | apply Kd.R_drewN | apply Kd.R_drew)); exact HO538.out) hb); have n1_ := Aside0.mk (Kd.R_below (by (with_reducible repeat (first | apply Kd.R_alloc | apply Kd.R_drewN | apply Kd.R_drew)); exact HO542.out) hb); have n2_ := Aside0.mk (below_step (by repeat (first | (with_reducible first | exact HB.out | apply below_alloc | apply pw_below_drewN | apply below_drew1) | exact HB.out)) hb); clear HO538; clear HO542; clear HB; have HO538 := n0_; have HO542 := n1_; have HB := n2_; clear n0_ n1_ n2_; (try clear hb); (try clear hb2); (try clear hk); (try clear hi)) | (go_at_call 23; (with_reducible refine (vellumlaw02_awake.calls k  t544 _ ?side1 A7.out).mono ?_); (case side1 => exact Glob.below HG.out (by repeat (first | (with_reducible first | exact HB.out | apply below_alloc | apply pw_below_drewN | apply below_drew1) | exact HB.out))); rintro e w13 ⟨rfl, hb⟩; have n0_ := Aside0.mk (Kd.R_below (by (with_reducible repeat (first | apply Kd.R_alloc | apply Kd.R_drewN | apply Kd.R_drew)); exact HO538.out) hb); have n1_ := Aside0.mk (Kd.R_below (by (with_reducible repeat (first | apply Kd.R_alloc | apply Kd.R_drewN | apply Kd.R_drew)); exact HO542.out) hb); have n2_ := Aside0.mk (below_step (by repeat (first | (with_reducible first | exact HB.out | apply below_alloc | apply pw_below_drewN | apply below_drew1) | exact HB.out)) hb); clear HO538; clear HO542; clear HB; have HO538 := n0_; have HO542 := n1_; have HB := n2_; clear n0_ n1_ n2_; (try clear hb); (try clear hb2); (try clear hk); (try clear hi)))
   go_ret
   exact ⟨by first | rfl | (simp [errW_none, errW_some] <;> rfl) | (simp [*, errW_none, errW_some] <;> rfl), by repeat (first | (with_reducible first | exact HB.out | apply below_alloc | apply pw_below_drewN | apply below_drew1) | exact HB.out)⟩
  ·replace c6 := Bool.eq_false_iff.mpr c6
   subst c6
   have H1 : (some false) = some r := by rw [if_neg (show ¬ (false = true) by decide)] at H; exact H
   clear H
   have H := H1
   clear H1
   obtain rfl := Option.some.inj H
   go_enter Tryd.func8, Tryd.ntmps8
   go_wp2_with (first | ((with_reducible refine gate_callee (f := 43) rfl ?_); refine goesL_ (some 9) rfl rfl Tryd.func43 (by kernel_rfl) rfl #[.string a0] rfl (by (try simp only [List.map_toArray, List.map_cons, List.map_nil]); first | done | rfl | (simp only [List.length_drop, List.length_take]; rfl)) ?_; (with_reducible refine (code_Decode.calls k a0 t535 t536 _ ?side1 A2.out).mono ?_); (case side1 => exact Glob.below HG.out (by repeat (first | (with_reducible first | exact HB.out | apply below_alloc | apply pw_below_drewN | apply below_drew1) | exact HB.out))); rintro e w14 ⟨v537, rfl, ho0, hb⟩; refine ⟨_, rfl, ?_⟩; have n0_ := Aside0.mk (Kd.R_lower ho0 (below_size (by repeat (first | (with_reducible first | exact HB.out | apply below_alloc | apply pw_below_drewN | apply below_drew1) | exact HB.out)))); have n1_ := Aside0.mk (below_step (by repeat (first | (with_reducible first | exact HB.out | apply below_alloc | apply pw_below_drewN | apply below_drew1) | exact HB.out)) hb); clear HB; have HO538 := n0_; have HB := n1_; clear n0_ n1_; (try clear hb); (try clear hb2); (try clear hk); (try clear hi); (try clear ho0)) | ((with_reducible refine gate_callee (f := 44) rfl ?_); refine goesL_ (some 14) rfl rfl Tryd.func44 (by kernel_rfl) rfl #[.string a0] rfl (by (try simp only [List.map_toArray, List.map_cons, List.map_nil]); first | done | rfl | (simp only [List.length_drop, List.length_take]; rfl)) ?_; (with_reducible refine (vellumref02_Decode.calls k a0 t539 t540 _ ?side1 A3.out).mono ?_); (case side1 => exact Glob.below HG.out (by repeat (first | (with_reducible first | exact HB.out | apply below_alloc | apply pw_below_drewN | apply below_drew1) | exact HB.out))); rintro e w15 ⟨v541, rfl, ho0, hb⟩; refine ⟨_, rfl, ?_⟩; have n0_ := Aside0.mk (Kd.R_elder' (by (with_reducible repeat (first | apply Kd.R_alloc | apply Kd.R_drewN | apply Kd.R_drew)); exact HO538.out) (Kd.R_base ho0) hb); have n1_ := Aside0.mk (Kd.R_lower (Kd.R_new' ho0 (Kd.R_lt (by (with_reducible repeat (first | apply Kd.R_alloc | apply Kd.R_drewN | apply Kd.R_drew)); exact HO538.out))) (below_size (by repeat (first | (with_reducible first | exact HB.out | apply below_alloc | apply pw_below_drewN | apply below_drew1) | exact HB.out)))); have n2_ := Aside0.mk (below_step (by repeat (first | (with_reducible first | exact HB.out | apply below_alloc | apply pw_below_drewN | apply below_drew1) | exact HB.out)) hb); clear HO538; clear HB; have HO538 := n0_; have HO542 := n1_; have HB := n2_; clear n0_ n1_ n2_; (try clear hb); (try clear hb2); (try clear hk); (try clear hi); (try clear ho0); obtain ⟨Ao16, co16, eo16⟩ := Kd.R_slice HO538.out; subst eo16; obtain ⟨Ao17, co17, eo17⟩ := Kd.R_slice HO542.out; subst eo17) | (go_at_call 45; (with_reducible refine (vellumref01_SameRow.calls k _ _ t535 _ _ t539 false _ ?side1 ?side2 ?side3 ?side4 A5.out).mono ?_); (case side1 => repeat (first | exact (Kd.R_reads' HO538.out).2.2 | (with_reducible refine Kd.C_alloc ?_ _) | (with_reducible refine Kd.C_drewN ?_ _) | (with_reducible refine Kd.C_drew ?_))); (case side2 => exact (Kd.R_reads' HO538.out).2.1); (case side3 => repeat (first | exact (Kd.R_reads' HO542.out).2.2 | (with_reducible refine Kd.C_alloc ?_ _) | (with_reducible refine Kd.C_drewN ?_ _) | (with_reducible refine Kd.C_drew ?_))); (case side4 => exact (Kd.R_reads' HO542.out).2.1); rintro e w18 ⟨rfl, hb⟩; have n0_ := Aside0.mk (Kd.R_below (by (with_reducible repeat (first | apply Kd.R_alloc | apply Kd.R_drewN | apply Kd.R_drew)); exact HO538.out) hb); have n1_ := Aside0.mk (Kd.R_below (by (with_reducible repeat (first | apply Kd.R_alloc | apply Kd.R_drewN | apply Kd.R_drew)); exact HO542.out) hb); have n2_ := Aside0.mk (below_step (by repeat (first | (with_reducible first | exact HB.out | apply below_alloc | apply pw_below_drewN | apply below_drew1) | exact HB.out)) hb); clear HO538; clear HO542; clear HB; have HO538 := n0_; have HO542 := n1_; have HB := n2_; clear n0_ n1_ n2_; (try clear hb); (try clear hb2); (try clear hk); (try clear hi)))
   go_ret
   exact ⟨by first | rfl | (simp [errW_none, errW_some] <;> rfl) | (simp [*, errW_none, errW_some] <;> rfl), by repeat (first | (with_reducible first | exact HB.out | apply below_alloc | apply pw_below_drewN | apply below_drew1) | exact HB.out)⟩
 ·rw [if_neg c4] at H
  have c4b0 : (t536 == t540) = false := beq_eq_false_iff_ne.mpr c4
  have c4b1 : (t536 != t540) = true := bne_iff_ne.mpr c4
  obtain rfl := Option.some.inj H
  go_enter Tryd.func8, Tryd.ntmps8
  go_wp2_with (first | ((with_reducible refine gate_callee (f := 43) rfl ?_); refine goesL_ (some 9) rfl rfl Tryd.func43 (by kernel_rfl) rfl #[.string a0] rfl (by (try simp only [List.map_toArray, List.map_cons, List.map_nil]); first | done | rfl | (simp only [List.length_drop, List.length_take]; rfl)) ?_; (with_reducible refine (code_Decode.calls k a0 t535 t536 _ ?side1 A2.out).mono ?_); (case side1 => exact Glob.below HG.out (by repeat (first | (with_reducible first | exact HB.out | apply below_alloc | apply pw_below_drewN | apply below_drew1) | exact HB.out))); rintro e w19 ⟨v537, rfl, ho0, hb⟩; refine ⟨_, rfl, ?_⟩; have n0_ := Aside0.mk (Kd.R_lower ho0 (below_size (by repeat (first | (with_reducible first | exact HB.out | apply below_alloc | apply pw_below_drewN | apply below_drew1) | exact HB.out)))); have n1_ := Aside0.mk (below_step (by repeat (first | (with_reducible first | exact HB.out | apply below_alloc | apply pw_below_drewN | apply below_drew1) | exact HB.out)) hb); clear HB; have HO538 := n0_; have HB := n1_; clear n0_ n1_; (try clear hb); (try clear hb2); (try clear hk); (try clear hi); (try clear ho0)) | ((with_reducible refine gate_callee (f := 44) rfl ?_); refine goesL_ (some 14) rfl rfl Tryd.func44 (by kernel_rfl) rfl #[.string a0] rfl (by (try simp only [List.map_toArray, List.map_cons, List.map_nil]); first | done | rfl | (simp only [List.length_drop, List.length_take]; rfl)) ?_; (with_reducible refine (vellumref02_Decode.calls k a0 t539 t540 _ ?side1 A3.out).mono ?_); (case side1 => exact Glob.below HG.out (by repeat (first | (with_reducible first | exact HB.out | apply below_alloc | apply pw_below_drewN | apply below_drew1) | exact HB.out))); rintro e w20 ⟨v541, rfl, ho0, hb⟩; refine ⟨_, rfl, ?_⟩; have n0_ := Aside0.mk (Kd.R_elder' (by (with_reducible repeat (first | apply Kd.R_alloc | apply Kd.R_drewN | apply Kd.R_drew)); exact HO538.out) (Kd.R_base ho0) hb); have n1_ := Aside0.mk (Kd.R_lower (Kd.R_new' ho0 (Kd.R_lt (by (with_reducible repeat (first | apply Kd.R_alloc | apply Kd.R_drewN | apply Kd.R_drew)); exact HO538.out))) (below_size (by repeat (first | (with_reducible first | exact HB.out | apply below_alloc | apply pw_below_drewN | apply below_drew1) | exact HB.out)))); have n2_ := Aside0.mk (below_step (by repeat (first | (with_reducible first | exact HB.out | apply below_alloc | apply pw_below_drewN | apply below_drew1) | exact HB.out)) hb); clear HO538; clear HB; have HO538 := n0_; have HO542 := n1_; have HB := n2_; clear n0_ n1_ n2_; (try clear hb); (try clear hb2); (try clear hk); (try clear hi); (try clear ho0)))
  go_ret
  exact ⟨by first | rfl | (simp [errW_none, errW_some] <;> rfl) | (simp [*, errW_none, errW_some] <;> rfl), by repeat (first | (with_reducible first | exact HB.out | apply below_alloc | apply pw_below_drewN | apply below_drew1) | exact HB.out)⟩
end Go.Proofs.YtpiifdbicibelaaDoor.PA
end
section
namespace Go.Proofs.YtpiifdbicibelaaDoor.Pure
open Go.RowKit Go.Proofs Go.Proofs.YtpiifdbicibelaaDoorW.PrintWords Go.Proofs.YtpiifdbicibelaaDoorW.PrintLast Go.Proofs.YtpiifdbicibelaaDoorW.PrintMore Go.Proofs.YtpiifdbicibelaaDoor.PA Go.Proofs.YtpiifdbicibelaaDoor.OpenK
set_option linter.unusedVariables false
set_option linter.unusedSimpArgs false
def valB (r : G5) : S50 := ⟨r.1, r.2.1, r.2.2.1, r.2.2.2.1⟩
theorem lit_i64 {b : Int} (h0 : -9223372036854775808 ≤ b) (h1 : b ≤ 9223372036854775807) : (Lit.int .i64 b).wf = true := by
  simpa [Lit.wf, IntKind.min, IntKind.max, IntKind.signed, IntKind.bits] using And.intro h0 h1
theorem bk_fits {L : List Int} (hL : Bytes L) (hlen : L.length ≤ 1000000) : (bk L).2.2.2.2 = 0 ∨ ∃ n : Nat, (bk L).2.2.2.2 = (n : Int) ∧ 1 ≤ n ∧ n ≤ L.length ∧ wf50 (valB (bk L)) := by
  cases L with
  | nil => exact .inl rfl
  | cons t M =>
    have hM := hL.tail
    have ht := hL t (by simp)
    simp only [bk]
    by_cases h1 : t = 1
    · rw [if_pos h1]
      exact .inr ⟨1, rfl, Nat.le_refl _, by simp, wf_of (by decide) (by decide) (by decide) (by decide)⟩
    rw [if_neg h1]
    by_cases h2 : t = 2
    · rw [if_pos h2]
      cases M with
      | nil => exact .inl rfl
      | cons b M' =>
        have hb := hM b (by simp)
        by_cases h3 : b < 2
        · have e : (if b < 2 then ((1, b, 0, (⟨#[]⟩ : ByteArray), 2) : G5) else (1, 0, 0, (⟨#[]⟩ : ByteArray), 0)) = (1, b, 0, (⟨#[]⟩ : ByteArray), 2) := if_pos h3
          simp only [e]
          refine .inr ⟨2, rfl, by decide, by simp, ?_⟩
          show wf50 ⟨1, b, 0, (⟨#[]⟩ : ByteArray)⟩
          exact wf_of (by decide) (lit_small (by omega)) (by decide) (by decide)
        · have e : (if b < 2 then ((1, b, 0, (⟨#[]⟩ : ByteArray), 2) : G5) else (1, 0, 0, (⟨#[]⟩ : ByteArray), 0)) = (1, 0, 0, (⟨#[]⟩ : ByteArray), 0) := if_neg h3
          simp only [e]
          exact .inl trivial
    rw [if_neg h2]
    by_cases h3 : t = 3
    · rw [if_pos h3]
      unfold bkInt
      cases hr : rawInt M with
      | none => exact .inl rfl
      | some p =>
        obtain ⟨m, b, k⟩ := p
        have hrr := raw_range hM hr
        simp only
        by_cases hbig : 9223372036854775808 ≤ m
        · rw [if_pos hbig]; exact .inl rfl
        · rw [if_neg hbig]
          refine .inr ⟨2 + k, rfl, by omega, by simp only [List.length_cons]; omega, wf_of (by show (0 : Int) ≤ 2 ∧ (2 : Int) ≤ 5; decide) ?_ (by show 0 < 18446744073709551616; decide) (by show (⟨#[]⟩ : ByteArray).size ≤ _; decide)⟩
          show (Lit.int .i64 (intOfRaw m b)).wf = true
          unfold intOfRaw
          split <;> exact lit_i64 (by omega) (by omega)
    rw [if_neg h3]
    by_cases h4 : t = 4
    · rw [if_pos h4]
      by_cases h : M.length < 8
      · rw [if_pos h]; exact .inl rfl
      · rw [if_neg h]
        have hl : (M.take 8).length = 8 := by rw [List.length_take]; omega
        exact .inr ⟨9, rfl, by decide, by simp only [List.length_cons]; omega, wf_of (by show (0 : Int) ≤ 3 ∧ (3 : Int) ≤ 5; decide) (by show (Lit.int .i64 0).wf = true; decide) (floatOf_lt (hM.take 8) hl) (by show (⟨#[]⟩ : ByteArray).size ≤ _; decide)⟩
    rw [if_neg h4]
    by_cases h5 : t = 5 ∨ t = 6
    · rw [if_pos h5]
      unfold bkText
      cases hto : textOff [] (toB M) with
      | none => exact .inl rfl
      | some p =>
        obtain ⟨u, r⟩ := p
        have hl := textOff_len (toB M).length (toB M) [] u r (Nat.le_refl _) hto
        have hm : (toB M).length = M.length := by simp [toB]
        rw [hm] at hl
        simp only [List.length_nil, List.length_cons] at hl hlen ⊢
        refine .inr ⟨1 + M.length - r.length, by omega, by omega, by omega, wf_of (by show (0 : Int) ≤ t - 1 ∧ t - 1 ≤ 5; omega) (by show (Lit.int .i64 0).wf = true; decide) (by show 0 < 18446744073709551616; decide) ?_⟩
        show u.toArray.size ≤ _
        simp; omega
    · rw [if_neg h5]; exact .inl rfl
theorem bk_complete {v : S50} (hv : Told v) {R : List Int} (hT : Tail R) (hR : Bytes R) : bk (codeOf v ++ R) = (v.f0, v.f1, v.f2, v.f3, ((codeOf v).length : Int)) := by
  obtain ⟨a, b, c, d⟩ := v
  obtain ⟨hok, ⟨_, w1, w2, w3⟩, hp⟩ := hv
  have hf := chk_fields hok
  obtain ⟨ha, f1, f2, f3, f4, f5, f6⟩ := hf
  simp only at ha f1 f2 f3 f4 f5 f6 w1 w2 w3 hp
  by_cases h0 : a = 0
  · subst h0
    obtain rfl := f2 (by decide) (by decide)
    obtain rfl := f3 (by decide)
    obtain rfl := f4 (by decide) (by decide)
    simp [codeOf, codeV, bk]
  by_cases h1 : a = 1
  · subst h1
    obtain rfl := f3 (by decide)
    obtain rfl := f4 (by decide) (by decide)
    have hb : b % 256 = b := by rcases f1 rfl with h | h <;> omega
    have hb1 : b < 2 := by rcases f1 rfl with h | h <;> omega
    simp [codeOf, codeV, hb, bk, hb1]
  by_cases h2 : a = 2
  · subst h2
    obtain rfl := f3 (by decide)
    obtain rfl := f4 (by decide) (by decide)
    obtain ⟨m, k, e1, e2, e3, e4, e5⟩ := raw_complete w1 R
    have ec : codeOf ⟨2, b, 0, (⟨#[]⟩ : ByteArray)⟩ = 3 :: codeInt b := by simp [codeOf, codeV]
    rw [ec, List.cons_append]
    have eg : bk (3 :: (codeInt b ++ R)) = bkInt (codeInt b ++ R) := by simp [bk]
    rw [eg]
    unfold bkInt
    rw [e1]
    simp only
    rw [if_neg (by omega), e2, List.length_cons, e5]
    have : 2 + k = k + 1 + 1 := by omega
    rw [this]
  by_cases h3 : a = 3
  · subst h3
    obtain rfl := f2 (by decide) (by decide)
    obtain rfl := f4 (by decide) (by decide)
    have hpc := hp rfl
    have ec : codeOf ⟨3, 0, c, (⟨#[]⟩ : ByteArray)⟩ = 4 :: codeBits c := by simp [codeOf, codeV, hpc]
    have h8 := codeBits_length c
    rw [ec, List.cons_append]
    have e1 : (codeBits c ++ R).take 8 = codeBits c := by rw [List.take_append_of_le_length (by omega), List.take_of_length_le (by omega)]
    have hn : ¬ (codeBits c ++ R).length < 8 := by rw [List.length_append]; omega
    simp only [bk]
    rw [if_neg (by decide), if_neg (by decide), if_neg (by decide), if_pos trivial, if_neg hn, e1, codeBits_float w2, List.length_cons, h8]
    rfl
  have hbc : b = 0 := f2 h1 h2
  have hcc : c = 0 := f3 h3
  subst hbc hcc
  have h45 : a = 4 ∨ a = 5 := by omega
  have ec : codeOf ⟨a, 0, 0, d⟩ = (a + 1) :: codeText d.data.toList := by
    rcases h45 with rfl | rfl <;> simp [codeOf, codeV]
  rw [ec, List.cons_append]
  have eg : bk ((a + 1) :: (codeText d.data.toList ++ R)) = bkText (a + 1) (codeText d.data.toList ++ R) := by
    simp only [bk]
    rw [if_neg (by omega), if_neg (by omega), if_neg (by omega), if_neg (by omega), if_pos (by omega)]
  rw [eg]
  unfold bkText
  rw [text_complete _ _ _ hT hR]
  simp only [List.nil_append]
  have e1 : a + 1 - 1 = a := by omega
  have e2 : (⟨d.data.toList.toArray⟩ : ByteArray) = d := by cases d; simp
  have e3 : (1 + ((codeText d.data.toList ++ R).length : Int)) - ((toB R).length : Int) = (((a + 1) :: codeText d.data.toList).length : Int) := by
    simp only [toB, List.length_map, List.length_append, List.length_cons]; omega
  rw [e1, e2, e3]
theorem build_some : ∀ (xs : List S50) (acc : List Int), (acc ++ flat xs).length ≤ 1024 → build acc xs = some (acc ++ flat xs)
  | [], acc, _ => by simp [build, flat]
  | x :: xs, acc, h => by
    rw [flat_cons, ← List.append_assoc] at h ⊢
    have h1 : ¬ 1024 < (acc ++ codeOf x).length := by rw [List.length_append] at h; omega
    simp only [build]
    rw [if_neg h1]
    exact build_some xs (acc ++ codeOf x) h
theorem encode_flat {xs : List S50} (hc : ∀ x ∈ xs, chkV x = 0) (hl : (flat xs).length ≤ 1024) : encode xs = (strOfNums (flat xs), 0) := by
  have e : xs.all (fun x => chkV x == 0) = true := List.all_eq_true.2 fun x hx => by simp [hc x hx]
  unfold encode
  rw [if_pos e, build_some xs [] (by simpa using hl)]
  simp
theorem str_toList {L M : List Int} (hL : Bytes L) (hM : Bytes M) : (strOfNums L).toList = (strOfNums M).toList ↔ L = M := by
  constructor
  · intro h
    rw [Lib.toList_data, Lib.toList_data] at h
    exact str_inj hL hM (Go.WideShapes.bytes_inj h)
  · rintro rfl; rfl
theorem ref_total (L : List Int) (hL : Bytes L) (hlen : L.length ≤ 1024) : ∀ (n i : Nat) (vs : List S50), L.length - i ≤ n → i ≤ L.length → vs.length ≤ i → (∀ v ∈ vs, wf50 v) →
    ∃ r : List S50 × Int, Ev (fun k => vellumref02_Decode.l0 k (strOfNums L) vs (i : Int)) r ∧ (r = ([], 20) ∨ ∃ ws, (∀ w ∈ ws, wf50 w ∧ chkV w = 0) ∧ L = flat ws ∧ r = (ws, 0)) := by
  intro n
  induction n with
  | zero =>
    intro i vs hn hi hv hw
    have hs : ∀ k, vellumref02_Decode.l0 (k + 1) (strOfNums L) vs (i : Int) = (vellumref02_Encode.f k vs).bind fun bt528 => (if bt528.2 = 0 then (if bt528.1.toList = (strOfNums L).toList then (some (vs, 0)) else (some (([] : List (S50)), 20))) else (some (([] : List (S50)), 20))) := by
      intro k
      simp only [vellumref02_Decode.l0]
      rw [if_neg (by rw [str_size]; omega)]
    have he := encode_ref vs hw (by omega)
    by_cases h0 : (encode vs).2 = 0
    · obtain ⟨g1, g2, g3⟩ := encode_ok h0
      by_cases h1 : flat vs = L
      · refine ⟨(vs, 0), Ev.step hs (Ev.bind he (Ev.pos h0 (Ev.pos ?_ Ev.pure))), .inr ⟨vs, fun w hw' => ⟨hw w hw', g1 w hw'⟩, h1.symm, rfl⟩⟩
        rw [g2, h1]
      · refine ⟨([], 20), Ev.step hs (Ev.bind he (Ev.pos h0 (Ev.neg ?_ Ev.pure))), .inl rfl⟩
        rw [g2]
        exact fun h => h1 ((str_toList (flat_bytes hw) hL).1 h)
    · exact ⟨([], 20), Ev.step hs (Ev.bind he (Ev.neg h0 Ev.pure)), .inl rfl⟩
  | succ n ih =>
    intro i vs hn hi hv hw
    by_cases hlt : i < L.length
    · have hne : L.drop i ≠ [] := by rw [Ne, List.drop_eq_nil_iff]; omega
      have hld : (L.drop i).length = L.length - i := by rw [List.length_drop]
      have hb := back_ev (L.drop i) (hL.drop i) hne (by omega)
      have hs : ∀ k, vellumref02_Decode.l0 (k + 1) (strOfNums L) vs (i : Int) = (vellumref02_back.f k (strOfNums (L.drop i))).bind fun bt519 => (if bt519.2.2.2.2 = 0 then (some (([] : List (S50)), 20)) else (if vs.length < 3518437208883 then (vellumref02_Decode.l0 k (strOfNums L) (vs ++ [(⟨bt519.1, bt519.2.1, bt519.2.2.1, bt519.2.2.2.1⟩ : S50)]) (wrap64 ((i : Int) + bt519.2.2.2.2))) else (none))) := by
        intro k
        have hx : (strOfNums L).extract ((i : Int)).toNat (strOfNums L).size = strOfNums (L.drop i) := str_drop L i
        simp only [vellumref02_Decode.l0, hx]
        rw [if_pos (by rw [str_size]; omega), if_pos (by omega), if_pos (by rw [str_size]; omega)]
      rcases bk_fits (hL.drop i) (by omega) with h0 | ⟨m, hm, m1, m2, m3⟩
      · exact ⟨([], 20), Ev.step hs (Ev.bind hb (Ev.pos h0 Ev.pure)), .inl rfl⟩
      · obtain ⟨r, hr, hcase⟩ := ih (i + m) (vs ++ [valB (bk (L.drop i))]) (by omega) (by omega) (by simp; omega) (by
          intro v hv'
          rcases List.mem_append.1 hv' with h | h
          · exact hw v h
          · simp at h; subst h; exact m3)
        refine ⟨r, Ev.step hs (Ev.bind hb (Ev.neg (by omega) (Ev.pos (by omega) ?_))), hcase⟩
        have hwr : wrap64 ((i : Int) + (m : Int)) = ((i + m : Nat) : Int) := by rw [wrap64_id (by omega) (by omega)]; omega
        rw [hm, hwr]
        exact hr
    · have := ih i vs (by omega) hi hv hw
      exact this
theorem flat_app (xs ys : List S50) : flat (xs ++ ys) = flat xs ++ flat ys := by simp [flat]
theorem ref_flat (xs : List S50) (hx : ∀ v ∈ xs, Told v) (hlen : (flat xs).length ≤ 1024) : ∀ (ys done : List S50), xs = done ++ ys →
    Ev (fun k => vellumref02_Decode.l0 k (strOfNums (flat xs)) done ((flat done).length : Int)) (xs, 0)
  | [], done, e => by
    have e' : xs = done := by rw [e]; simp
    subst e'
    have hw : ∀ v ∈ xs, wf50 v := fun v h => (hx v h).wf
    have hxl : ∀ zs : List S50, zs.length ≤ (flat zs).length := by
      intro zs
      induction zs with
      | nil => simp
      | cons z zs ih => rw [flat_cons, List.length_append, List.length_cons]; have := codeOf_pos z; omega
    have hl := hxl xs
    refine Ev.step (g := fun k => (vellumref02_Encode.f k xs).bind fun bt528 => (if bt528.2 = 0 then (if bt528.1.toList = (strOfNums (flat xs)).toList then (some (xs, 0)) else (some (([] : List (S50)), 20))) else (some (([] : List (S50)), 20)))) (fun k => ?_) ?_
    · simp only [vellumref02_Decode.l0]
      rw [if_neg (by rw [str_size]; omega)]
    · have he := encode_flat (fun v h => (hx v h).ok) hlen
      refine Ev.bind (encode_ref xs hw (by omega)) (Ev.pos (by rw [he]) (Ev.pos (by rw [he]) Ev.pure))
  | y :: ys, done, e => by
    have hy : Told y := hx y (by rw [e]; simp)
    have hw : ∀ v ∈ ys, wf50 v := fun v h => (hx v (by rw [e]; simp [h])).wf
    have hf : flat xs = flat done ++ (codeOf y ++ flat ys) := by rw [e, flat_app, flat_cons]
    have hb : Bytes (flat xs) := flat_bytes fun v h => (hx v h).wf
    have hdrop : (flat xs).drop (flat done).length = codeOf y ++ flat ys := by rw [hf]; simp
    have hll : (flat xs).length = (flat done).length + ((codeOf y).length + (flat ys).length) := by rw [hf]; simp
    have hpos := codeOf_pos y
    have hbk := back_ev ((flat xs).drop (flat done).length) (hb.drop _) (by rw [hdrop]; intro h; rw [List.append_eq_nil_iff] at h; rw [h.1] at hpos; simp at hpos) (by rw [hdrop]; simp; omega)
    rw [hdrop, bk_complete hy (flat_tail ys) (flat_bytes hw)] at hbk
    have hx' : (strOfNums (flat xs)).extract (((flat done).length : Int)).toNat (strOfNums (flat xs)).size = strOfNums (codeOf y ++ flat ys) := by
      have := str_drop (flat xs) (flat done).length
      rw [hdrop] at this
      exact this
    have hdl : done.length ≤ 1024 := by
      have hxl : ∀ zs : List S50, zs.length ≤ (flat zs).length := by
        intro zs
        induction zs with
        | nil => simp
        | cons z zs ih => rw [flat_cons, List.length_append, List.length_cons]; have := codeOf_pos z; omega
      have := hxl done
      omega
    refine Ev.step (g := fun k => (vellumref02_back.f k (strOfNums (codeOf y ++ flat ys))).bind fun bt519 => (if bt519.2.2.2.2 = 0 then (some (([] : List (S50)), 20)) else (if done.length < 3518437208883 then (vellumref02_Decode.l0 k (strOfNums (flat xs)) (done ++ [(⟨bt519.1, bt519.2.1, bt519.2.2.1, bt519.2.2.2.1⟩ : S50)]) (wrap64 (((flat done).length : Int) + bt519.2.2.2.2))) else (none)))) (fun k => ?_) ?_
    · simp only [vellumref02_Decode.l0, hx']
      rw [if_pos (by rw [str_size]; omega), if_pos (by omega), if_pos (by rw [str_size]; omega)]
    · refine Ev.bind hbk (Ev.neg (by show ¬ (((codeOf y).length : Int) = 0); omega) (Ev.pos (by omega) ?_))
      have hwr : wrap64 (((flat done).length : Int) + ((codeOf y).length : Int)) = ((flat (done ++ [y])).length : Int) := by
        rw [wrap64_id (by omega) (by omega), flat_app]
        simp [flat]
      show Ev (fun k => vellumref02_Decode.l0 k (strOfNums (flat xs)) (done ++ [y]) (wrap64 (((flat done).length : Int) + ((codeOf y).length : Int)))) (xs, 0)
      rw [hwr]
      exact ref_flat xs hx hlen ys (done ++ [y]) (by rw [e]; simp)
theorem Ev.uniq {α : Type} {f : Nat → Option α} {a b : α} (h1 : Ev f a) (h2 : Ev f b) : a = b := by
  obtain ⟨k1, h1⟩ := h1
  obtain ⟨k2, h2⟩ := h2
  have e1 := h1 (max k1 k2) (by omega)
  have e2 := h2 (max k1 k2) (by omega)
  rw [e1] at e2
  exact Option.some.inj e2
def plainV (v : S50) : S50 := ⟨v.f0, v.f1, if v.f0 = 3 then plainF v.f2 else v.f2, v.f3⟩
theorem plainF_idem {c : Nat} (hc : c < 18446744073709551616) : plainF (plainF c) = plainF c := by
  by_cases hn : isNum c
  · obtain ⟨h1, h2, h3⟩ := plainF_num hc hn
    have hlt := plainF_lt hc
    unfold plainF at h1 h2 h3 hlt ⊢
    by_cases h0 : feq c 0 = true
    · rw [if_pos h0]; decide +kernel
    · rw [if_neg h0, if_pos ((feq_num hc).2 hn), if_neg h0, if_pos ((feq_num hc).2 hn)]
  · rw [plainF_nan hc hn]; decide +kernel
theorem plainV_told {v : S50} (hw : wf50 v) (hc : chkV v = 0) : Told (plainV v) := by
  obtain ⟨a, b, c, d⟩ := v
  obtain ⟨w0, w1, w2, w3⟩ := hw
  by_cases h3 : a = 3
  · subst h3
    have hcc : chk 3 b (plainF c) d = 0 := by
      have : chk 3 b c d = 0 := hc
      unfold chk at this ⊢
      simpa using this
    exact ⟨by simpa [plainV, chkV] using hcc, ⟨w0, w1, by show (if (3 : Int) = 3 then plainF c else c) < _; rw [if_pos rfl]; exact plainF_lt w2, w3⟩, fun _ => by show plainF (if (3 : Int) = 3 then plainF c else c) = (if (3 : Int) = 3 then plainF c else c); rw [if_pos rfl]; exact plainF_idem w2⟩
  · have e : plainV ⟨a, b, c, d⟩ = ⟨a, b, c, d⟩ := by simp [plainV, h3]
    rw [e]
    exact ⟨hc, ⟨w0, w1, w2, w3⟩, fun h => absurd h h3⟩
theorem plainV_code {v : S50} (hw : wf50 v) : codeOf (plainV v) = codeOf v := by
  obtain ⟨a, b, c, d⟩ := v
  by_cases h3 : a = 3
  · subst h3
    simp only [plainV, codeOf, codeV]
    simp [plainF_idem hw.2.2.1]
  · simp [plainV, h3]
theorem plainV_flat : ∀ {xs : List S50}, (∀ x ∈ xs, wf50 x) → flat (xs.map plainV) = flat xs
  | [], _ => rfl
  | x :: xs, h => by
    rw [List.map_cons, flat_cons, flat_cons, plainV_code (h x (by simp)), plainV_flat fun y hy => h y (by simp [hy])]
theorem decode_both (s : ByteArray) : ∃ r : List S50 × Int, Ev (fun k => code_Decode.f k s) r ∧ Ev (fun k => vellumref02_Decode.f k s) r ∧ (r.1 = [] ∧ r.2 ≠ 0 ∨ (∀ v ∈ r.1, Told v) ∧ r.2 = 0 ∧ s = strOfNums (flat r.1) ∧ (flat r.1).length ≤ 1024) := by
  have hs := str_bytes s
  have hB := bytesOf_bytes s
  generalize bytesOf s = L at hs hB
  subst hs
  simp only [code_Decode.f, vellumref02_Decode.f, str_size]
  by_cases hlong : (L.length : Int) > 1024
  · exact ⟨([], 3), Ev.pos hlong Ev.pure, Ev.pos hlong Ev.pure, .inl ⟨rfl, by decide⟩⟩
  have hlen : L.length ≤ 1024 := by omega
  obtain ⟨r, hr, hcase⟩ := decode_total L.length L [] (Nat.le_refl _) hB (by simp; omega)
  rcases hcase with rfl | ⟨vs, h1, h2, h3⟩
  · obtain ⟨r2, hr2, hcase2⟩ := ref_total L hB hlen L.length 0 [] (by omega) (by omega) (by simp) (by simp)
    rcases hcase2 with rfl | ⟨ws, g1, g2, g3⟩
    · exact ⟨([], 20), Ev.neg hlong hr, Ev.neg hlong hr2, .inl ⟨rfl, by decide⟩⟩
    · exfalso
      have hw : ∀ w ∈ ws, wf50 w := fun w h => (g1 w h).1
      have hd := decode_flat (ws.map plainV) [] (by
        intro v hv
        obtain ⟨w, hw1, rfl⟩ := List.mem_map.1 hv
        exact plainV_told (g1 w hw1).1 (g1 w hw1).2) (by rw [plainV_flat hw, ← g2]; simp; omega)
      rw [plainV_flat hw, ← g2] at hd
      have := Ev.uniq hr hd
      simp at this
  · subst h2
    have hd := ref_flat vs h1 hlen vs [] rfl
    refine ⟨(vs, 0), Ev.neg hlong ?_, Ev.neg hlong hd, .inr ⟨h1, rfl, rfl, hlen⟩⟩
    rw [h3] at hr
    exact hr
theorem flat_len : ∀ zs : List S50, zs.length ≤ (flat zs).length
  | [] => by simp
  | z :: zs => by rw [flat_cons, List.length_append, List.length_cons]; have := codeOf_pos z; have := flat_len zs; omega
end Go.Proofs.YtpiifdbicibelaaDoor.Pure
end
section
namespace Go.Proofs.YtpiifdbicibelaaDoor.Pure
open Go.RowKit Go.Proofs Go.Proofs.YtpiifdbicibelaaDoorW.PrintWords Go.Proofs.YtpiifdbicibelaaDoor.PA Go.Proofs.YtpiifdbicibelaaDoor.OpenK
set_option linter.unusedVariables false
theorem nb_1 : nb 1 = 1 := by unfold nb; simp; unfold nb; simp
theorem encode_one : encode [(⟨2, 1, 0, (⟨#[]⟩ : ByteArray)⟩ : S50)] = (⟨#[3, 129, 1]⟩, 0) := by
  have e : (⟨#[]⟩ : ByteArray).toList = [] := by decide +kernel
  have e2 : (⟨#[]⟩ : ByteArray).size = 0 := rfl
  simp [encode, e2, chkV, chk, build, codeOf, codeV, codeInt, nb_1, be, e, strOfNums]
theorem awake_ev : Ev (fun k => vellumlaw02_awake.f k) true := by
  simp only [vellumlaw02_awake.f]
  refine Ev.bind (encode_code _ ?_ (by simp)) ?_
  · intro x hx
    simp at hx
    subst hx
    exact ⟨by decide, by decide, by decide, by decide⟩
  · rw [encode_one]
    exact Ev.const (by decide +kernel)
end Go.Proofs.YtpiifdbicibelaaDoor.Pure
end
section
namespace Go.Proofs.YtpiifdbicibelaaDoor.Pure
open Go.RowKit Go.Proofs Go.Proofs.YtpiifdbicibelaaDoorW.PrintWords Go.Proofs.YtpiifdbicibelaaDoorW.PrintLast Go.Proofs.YtpiifdbicibelaaDoorW.PrintMore Go.Proofs.YtpiifdbicibelaaDoor.PA Go.Proofs.YtpiifdbicibelaaDoor.OpenK
set_option linter.unusedVariables false
set_option linter.unusedSimpArgs false
theorem sameRow_ev (xs : List S50) (hl : xs.length < 9223372036854775807) : Ev (fun k => vellumref01_SameRow.f k xs xs) true := by
  have go : ∀ (m i : Nat), i + m = xs.length → Ev (fun k => vellumref01_SameRow.l0 k xs xs (i : Int)) true := by
    intro m
    induction m with
    | zero =>
      intro i hi
      refine Ev.from_ 1 fun k => ?_
      simp only [vellumref01_SameRow.l0]
      rw [if_neg (by omega)]
    | succ m ih =>
      intro i hi
      have hwr : True → wrap64 ((i : Int) + 1) = ((i + 1 : Nat) : Int) := fun _ => by rw [wrap64_id (by omega) (by omega)]; omega
      refine Ev.step (g := fun k => vellumref01_SameRow.l0 k xs xs ((i + 1 : Nat) : Int)) (fun k => ?_) (ih (i + 1) (by omega))
      simp only [vellumref01_SameRow.l0, vellumref01_Same.f]
      rw [if_pos (by omega), if_pos (by omega), if_pos (by omega), if_pos trivial, if_pos trivial, if_pos trivial, hwr trivial]
      simp
  simp only [vellumref01_SameRow.f]
  exact Ev.pos trivial (go xs.length 0 (by omega))
theorem CodeDecodes (a0 : ByteArray) (h : a0.size ≤ 140737488351232) : ∃ k, vellumlaw02_CodeDecodes.f k a0 = some true := by
  refine Ev.ex ?_
  simp only [vellumlaw02_CodeDecodes.f]
  obtain ⟨r, h1, h2, hcase⟩ := decode_both a0
  have hl : r.1.length < 9223372036854775807 := by
    rcases hcase with ⟨h, _⟩ | ⟨_, _, _, h⟩
    · rw [h]; decide
    · have := flat_len r.1
      omega
  exact Ev.bind h1 (Ev.bind h2 (Ev.pos rfl (Ev.bind (sameRow_ev r.1 hl) (Ev.pos rfl (Ev.bind awake_ev Ev.pure)))))
end Go.Proofs.YtpiifdbicibelaaDoor.Pure
end
section
namespace Go.Proofs.YtpiifdbicibelaaDoor.codeDecodes
open Go.ChangeShapes Go.WideShapes Go.ChangeAt Go.RowKit Go.Proofs.YtpiifdbicibelaaDoorW.PrintWords Go.Proofs.YtpiifdbicibelaaDoor.PA Go.Proofs.YtpiifdbicibelaaDoor.OpenK Go.Proofs.YtpiifdbicibelaaDoor.Pure
open Go.ChangeMaps (open_string shut_string)
set_option linter.unusedVariables false
theorem walk {H : Type} {enc : TypeId × Value → H} (W : World) (base : Nat) (args : Array Value) (ds : List (DataW H)) (ps : List MemPlace) (hA0 : DataW.TrodAll enc Tryd.prog W 0 (fun _ => true) true Tryd.f8.params.toList args.toList ds ps)
    (hw0 : (DataW.weightsEach Tryd.prog Tryd.f8.params.toList ds).all (· ≤ reachBytes) = true) (hval0 : ∀ (j : Nat) t v, Tryd.f8.params[j]? = some t → args[j]? = some v → Value.okWide Tryd.prog W .any base t v) (hG : Glob W) :
    Calls Tryd.prog 8 args W fun e W' => e = .returned (.bool true) ∧ Below W.heap.size W W' := by
  have hval : ∀ (j : Nat) t v, Tryd.f8.params[j]? = some t → args[j]? = some v → Value.okWide Tryd.prog W .any base t v := @hval0
  have hA : DataW.TrodAll enc Tryd.prog W 0 (fun _ => true) true Tryd.f8.params.toList args.toList ds ps := hA0
  have hw : (DataW.weightsEach Tryd.prog Tryd.f8.params.toList ds).all (· ≤ reachBytes) = true := hw0
  rw [Tryd.params8] at hA hval hw
  clear hA0 hw0 hval0
  obtain ⟨v0, vs0, d0, ds0, p0, q0, hargs, rfl, rfl, h0, r0⟩ := trodAll_cons hA
  obtain ⟨rfl, rfl, rfl⟩ := trodAll_nil r0
  obtain rfl : args = #[v0] := by cases args; simp_all
  simp only [DataW.weightsEach, all_append_iff] at hw
  obtain ⟨hw0, _⟩ := hw
  obtain ⟨a0, rfl, rfl, rfl, y0⟩ := arg_string (j := 0) @hval rfl rfl Tryd.underlying9 h0
  have wf0_ : a0.size ≤ 140737488351232 := by
    simp only [DataW.weights, List.all_cons, List.all_nil, Bool.and_true, decide_eq_true_eq, Array.length_toList] at hw0
    unfold reachBytes at hw0
    exact hw0
  obtain ⟨k, h⟩ := CodeDecodes a0 wf0_
  refine (vellumlaw02_CodeDecodes.calls k a0 true W  hG h).mono ?_
  rintro e W' ⟨rfl, hd⟩
  exact ⟨rfl, hd⟩
theorem witness_row (os : Os) {H : Type} (enc : TypeId × Value → H) :
    (OpenSpec.ofChange Rows.codeDecodesSpec).preRow enc Tryd.prog Tryd.f8 [] false laidList ((laidWorld os).forCall (fun _ _ => 0) ⟨#[], #[.string ByteArray.empty], []⟩).memory #[.string ByteArray.empty] := by
  have hw : (DataW.whole enc Tryd.prog ((laidWorld os).forCall (fun _ _ => 0) ⟨#[], #[.string ByteArray.empty], []⟩).memory Tryd.f8.params.toList (OpenSpec.ofChange Rows.codeDecodesSpec).vars false (#[.string ByteArray.empty] : Array Value).toList 8).map (fun x => (x.1, x.2.1)) = some ([.lit (.string [])], []) := by kernel_rfl
  obtain ⟨⟨x1, x2, x3⟩, hx, hx1⟩ := Option.map_eq_some_iff.1 hw
  simp only [Prod.mk.injEq] at hx1
  obtain ⟨rfl, rfl⟩ := hx1
  exact OpenSpec.preRow_of_cond 8 hx (by kernel_rfl) (fun k hk => by cases hk) (by kernel_rfl) (laid_met os _)
theorem ends {os : Os} (started : os.Started) {H : Type} {enc : TypeId × Value → H} {F : Stop.Interp} : ReturnsInHanded { modest := false } Tryd.checked os 8 .any ((OpenSpec.ofChange Rows.codeDecodesSpec).preRow enc Tryd.prog Tryd.f8 [] false laidList) (((OpenSpec.ofChange Rows.codeDecodesSpec).at F).post enc Tryd.prog Tryd.f8 false true false false) :=
  law_lifted (spec := Rows.codeDecodesSpec) Tryd.func8 (by kernel_rfl) (tb := 4) rfl Tryd.underlying4 (by kernel_rfl) rfl
    (fun H ds hl => by
      match ds, hl with
      | [_], _ => rfl) started
    (witness_row_atRef (enc := enc) (C := Tryd.checked) false (laidWorld os) #[.string ByteArray.empty] rfl (by kernel_rfl) (by kernel_rfl) (by kernel_rfl) (witness_row os enc))
    (fun W base args ds ps hA hw hval hG => walk W base args ds ps hA hw @hval hG)
theorem inPlace_ : Tryd.prog.inPlace 8 = Rows.codeDecodesRow.inPlace := by kernel_rfl
theorem unfollowed_ : Tryd.prog.unfollowed 8 = Rows.codeDecodesRow.unfollowed := by kernel_rfl
theorem recurses_ : Tryd.prog.recurses 8 = Rows.codeDecodesRow.recurses := by kernel_rfl
theorem named_ : Tryd.prog.varsNamed 8 = Rows.codeDecodesRow.named := by kernel_rfl
theorem closed : joinedFacts Tryd.prog 8 Tryd.f8 (OpenSpec.ofChange Rows.codeDecodesSpec).bare Rows.codeDecodesRow = true := by
  unfold joinedFacts
  rw [laidOut, mapsRowed_, stops_, stopKnobs_, plainKeys_, stopsHeard_, mayEnter_, lifts_, make_, inPlace_, unfollowed_, recurses_, named_]
  kernel_rfl
set_option maxRecDepth 100000 in
theorem over : Rows.codeDecodesRow.holds Tryd.pinned (OpenSpec.ofChange Rows.codeDecodesSpec) :=
  OpenClaim.holds_of_cond 8 Tryd.f8 rfl rfl rfl rfl rfl rfl rfl ⟨rfl, rfl, rfl, rfl, rfl⟩ rfl rfl rfl rfl rfl (by kernel_rfl) Tryd.func8 closed
    (of_decide_eq_true (by kernel_rfl)) (by unfold Func.isWrapper; rw [if_neg (of_decide_eq_false (by kernel_rfl))]; exact ⟨rfl, rfl⟩)
    (fun os started H enc _ F => by
      rw [OpenClaim.pre_eq_preRow]
      exact ends started)
theorem card : Rows.CodeDecodesCardSaid :=
  Claim7.holds_tied_plain_at .later [] [.data, .pinned] true (true, "409e20a6319c123f59629b35fea50f486835097bfbed967dc062cdc0fc9eff79") false
    over (fun _ h => by cases h) (by kernel_rfl) (fun _ h => by cases h) codeDecodes_row_tie rfl ⟨rfl, rfl⟩ (by kernel_rfl) rfl
    (fun f fn hf hfn => by
      obtain rfl : f = 8 := Option.some.inj ((show Tryd.prog.funcNamed "vellum/vellumlaw02.CodeDecodes" = some 8 by kernel_rfl).symm.trans hf) |>.symm
      obtain rfl : fn = Tryd.f8 := (Option.some.inj (Tryd.func8.symm.trans hfn)).symm
      exact ⟨by kernel_rfl, fun j t ht => by
        rw [Tryd.params8] at ht
        have h3 : t ∈ [9] := by
          have := List.mem_of_getElem? (l := [9]) (i := j) (by simpa using ht)
          exact this
        have h4 : ∀ t ∈ [9], Tryd.prog.wantsStandIn t = false := by
          intro t ht
          simp only [List.mem_cons, List.mem_nil_iff, or_false] at ht
          rcases ht with rfl
          all_goals kernel_rfl
        exact h4 t h3⟩)
    (by kernel_rfl)
end Go.Proofs.YtpiifdbicibelaaDoor.codeDecodes
namespace Go.Proofs.YtpiifdbicibelaaDoor
theorem codeDecodes_holds : Rows.CodeDecodesCardSaid := codeDecodes.card
end Go.Proofs.YtpiifdbicibelaaDoor
end
