/- Part 3 of what the proof of SetsOwn stands on: words for walks, printed functions with their contracts, plain laws. -/
import Derived.Test.YtldlenjfpjihdaaGreatKSetsOwn1
section
namespace Go.Proofs.YtldlenjfpjihdaaGreat.PS
open Go.RowKit Go.Proofs.YtldlenjfpjihdaaGreatW.PrintWords Go.Proofs.YtldlenjfpjihdaaGreatW.PrintLast Go.Proofs.YtldlenjfpjihdaaGreatW.PrintMore
attribute [local go_sem] max2_int min2_int max_two min_two max_three min_three max_four min_four
set_option linter.unusedVariables false
set_option linter.unusedSimpArgs false
attribute [local go_sem high] eqA37 eqA46
set_option maxHeartbeats 8000000 in
set_option maxRecDepth 100000 in
theorem vellumref17_Same.calls (k : Nat) (A0_0 : Option Addr) (c0_0 : Nat) (l0_0 : List (S37)) (A0_1 : Option Addr) (c0_1 : Nat) (l0_1 : List (S46)) (A0_2 : Option Addr) (c0_2 : Nat) (l0_2 : List (S37)) (A1_0 : Option Addr) (c1_0 : Nat) (l1_0 : List (S37)) (A1_1 : Option Addr) (c1_1 : Nat) (l1_1 : List (S46)) (A1_2 : Option Addr) (c1_2 : Nat) (l1_2 : List (S37)) (r : Bool) (w : World) (hr0_0 : Kd.C k37 w A0_0 l0_0.length l0_0) (hc0_0 : l0_0.length ≤ c0_0) (hr0_1 : Kd.C k46 w A0_1 l0_1.length l0_1) (hc0_1 : l0_1.length ≤ c0_1) (hr0_2 : Kd.C k37 w A0_2 l0_2.length l0_2) (hc0_2 : l0_2.length ≤ c0_2) (hr1_0 : Kd.C k37 w A1_0 l1_0.length l1_0) (hc1_0 : l1_0.length ≤ c1_0) (hr1_1 : Kd.C k46 w A1_1 l1_1.length l1_1) (hc1_1 : l1_1.length ≤ c1_1) (hr1_2 : Kd.C k37 w A1_2 l1_2.length l1_2) (hc1_2 : l1_2.length ≤ c1_2) (h : vellumref17_Same.f k l0_0 l0_1 l0_2 l1_0 l1_1 l1_2 = some r) :
    Calls Tryz.prog 10 #[.agg #[.slice A0_0 l0_0.length c0_0, .slice A0_1 l0_1.length c0_1, .slice A0_2 l0_2.length c0_2], .agg #[.slice A1_0 l1_0.length c1_0, .slice A1_1 l1_1.length c1_1, .slice A1_2 l1_2.length c1_2]] w fun e w' => e = .returned (.bool r) ∧ Below w.heap.size w w' := by
  have hu25 := Tryz.underlying25
  have hu37 := Tryz.underlying37
  have hu46 := Tryz.underlying46
  have HR0_0 := Aside0.mk hr0_0
  have HC0_0 := Aside0.mk hc0_0
  clear hr0_0 hc0_0
  have HR0_1 := Aside0.mk hr0_1
  have HC0_1 := Aside0.mk hc0_1
  clear hr0_1 hc0_1
  have HR0_2 := Aside0.mk hr0_2
  have HC0_2 := Aside0.mk hc0_2
  clear hr0_2 hc0_2
  have HR1_0 := Aside0.mk hr1_0
  have HC1_0 := Aside0.mk hc1_0
  clear hr1_0 hc1_0
  have HR1_1 := Aside0.mk hr1_1
  have HC1_1 := Aside0.mk hc1_1
  clear hr1_1 hc1_1
  have HR1_2 := Aside0.mk hr1_2
  have HC1_2 := Aside0.mk hc1_2
  clear hr1_2 hc1_2
  have HB := Aside0.mk (Below.refl w.heap.size w)
  have H : (if (l0_0.length : Int) = (l1_0.length : Int) then (if (l0_1.length : Int) = (l1_1.length : Int) then (vellumref17_Same.j0 k ((l0_2.length : Int) != (l1_2.length : Int)) l0_0 l0_1 l0_2 l1_0 l1_1 l1_2) else (vellumref17_Same.j0 k true l0_0 l0_1 l0_2 l1_0 l1_1 l1_2)) else (vellumref17_Same.j0 k true l0_0 l0_1 l0_2 l1_0 l1_1 l1_2)) = some r := h
  clear h
  have HC3 := Aside0.mk H
  clear H
  go_enter Tryz.func10, Tryz.ntmps10
  go_upto_region 1 with (first | ((with_reducible refine gate_dst (N := 2) rfl ?_); (try (refine gate_guard (by rfl) ?_; dsimp only)); refine box_event ?hg (N := 2) ?hd (cs := #[.slice A0_0 l0_0.length c0_0, .slice A0_1 l0_1.length c0_1, .slice A0_2 l0_2.length c0_2]) (t := 25) ?hr ?_; (case hd => rfl); (case hg => rfl); (case hr => first | (go_simp; done) | (go_simp; rfl)); intro gb140 hg w4 hbox hb; have n0_ := Aside0.mk (below_step (by repeat (first | (with_reducible first | exact HB.out | apply below_alloc | apply pw_below_drewN | apply below_drew1) | exact HB.out)) hb); have n1_ := Aside0.mk (hbox); have n2_ := Aside0.mk ((by rw [hg]; exact (below_size (by repeat (first | (with_reducible first | exact HB.out | apply below_alloc | apply pw_below_drewN | apply below_drew1) | exact HB.out))) : w.heap.size ≤ gb140)); have n3_ := Aside0.mk ((by rw [hg]; exact (below_size (by repeat (first | (with_reducible first | exact HB.out | apply below_alloc | apply pw_below_drewN | apply below_drew1) | exact HB.out))) : w.heap.size ≤ gb140)); clear HB; have HB := n0_; have BK140 := n1_; have GW140 := n2_; have GE140 := n3_; clear n0_ n1_ n2_ n3_; clear hb hbox hg) | ((with_reducible refine gate_dst (N := 3) rfl ?_); (try (refine gate_guard (by rfl) ?_; dsimp only)); refine box_event ?hg (N := 3) ?hd (cs := #[.slice A1_0 l1_0.length c1_0, .slice A1_1 l1_1.length c1_1, .slice A1_2 l1_2.length c1_2]) (t := 25) ?hr ?_; (case hd => rfl); (case hg => rfl); (case hr => first | (go_simp; done) | (go_simp; rfl)); intro gb141 hg w5 hbox hb; have n0_ := Aside0.mk (blk_below (g := gb140) (o := .cells #[.slice A0_0 l0_0.length c0_0, .slice A0_1 l0_1.length c0_1, .slice A0_2 l0_2.length c0_2] 25 (0, 0)) (by (with_reducible repeat (first | refine blk_drewN ?_ _ | refine blk_drew ?_ | refine blk_alloc ?_ _)); exact BK140.out) hb); have n1_ := Aside0.mk (below_step (by repeat (first | (with_reducible first | exact HB.out | apply below_alloc | apply pw_below_drewN | apply below_drew1 | refine below_set ?_ GE140.out) | exact HB.out)) hb); have n2_ := Aside0.mk (hbox); have n3_ := Aside0.mk ((by rw [hg]; exact (below_size (by repeat (first | (with_reducible first | exact HB.out | apply below_alloc | apply pw_below_drewN | apply below_drew1 | refine below_set ?_ GE140.out) | exact HB.out))) : w.heap.size ≤ gb141)); have n4_ := Aside0.mk ((by rw [hg]; exact (below_size (by repeat (first | (with_reducible first | exact HB.out | apply below_alloc | apply pw_below_drewN | apply below_drew1 | refine below_set ?_ GE140.out) | exact HB.out))) : w.heap.size ≤ gb141)); have n5_ := Aside0.mk ((by rw [hg]; exact Nat.ne_of_lt (blk_lt (g := gb140) (o := .cells #[.slice A0_0 l0_0.length c0_0, .slice A0_1 l0_1.length c0_1, .slice A0_2 l0_2.length c0_2] 25 (0, 0)) (by (with_reducible repeat (first | refine blk_drewN ?_ _ | refine blk_drew ?_ | refine blk_alloc ?_ _)); exact BK140.out)) : gb140 ≠ gb141)); have n6_ := Aside0.mk ((by rw [hg]; exact Nat.ne_of_gt (blk_lt (g := gb140) (o := .cells #[.slice A0_0 l0_0.length c0_0, .slice A0_1 l0_1.length c0_1, .slice A0_2 l0_2.length c0_2] 25 (0, 0)) (by (with_reducible repeat (first | refine blk_drewN ?_ _ | refine blk_drew ?_ | refine blk_alloc ?_ _)); exact BK140.out)) : gb141 ≠ gb140)); clear BK140; clear HB; have BK140 := n0_; have HB := n1_; have BK141 := n2_; have GW141 := n3_; have GE141 := n4_; have NB140_141 := n5_; have NB141_140 := n6_; clear n0_ n1_ n2_ n3_ n4_ n5_ n6_; clear hb hbox hg))
  repeat (go_quiet (first | ((with_reducible refine gate_dst (N := 2) rfl ?_); (try (refine gate_guard (by rfl) ?_; dsimp only)); refine box_event ?hg (N := 2) ?hd (cs := #[.slice A0_0 l0_0.length c0_0, .slice A0_1 l0_1.length c0_1, .slice A0_2 l0_2.length c0_2]) (t := 25) ?hr ?_; (case hd => rfl); (case hg => rfl); (case hr => first | (go_simp; done) | (go_simp; rfl)); intro gb140 hg w4 hbox hb; have n0_ := Aside0.mk (below_step (by repeat (first | (with_reducible first | exact HB.out | apply below_alloc | apply pw_below_drewN | apply below_drew1) | exact HB.out)) hb); have n1_ := Aside0.mk (hbox); have n2_ := Aside0.mk ((by rw [hg]; exact (below_size (by repeat (first | (with_reducible first | exact HB.out | apply below_alloc | apply pw_below_drewN | apply below_drew1) | exact HB.out))) : w.heap.size ≤ gb140)); have n3_ := Aside0.mk ((by rw [hg]; exact (below_size (by repeat (first | (with_reducible first | exact HB.out | apply below_alloc | apply pw_below_drewN | apply below_drew1) | exact HB.out))) : w.heap.size ≤ gb140)); clear HB; have HB := n0_; have BK140 := n1_; have GW140 := n2_; have GE140 := n3_; clear n0_ n1_ n2_ n3_; clear hb hbox hg) | ((with_reducible refine gate_dst (N := 3) rfl ?_); (try (refine gate_guard (by rfl) ?_; dsimp only)); refine box_event ?hg (N := 3) ?hd (cs := #[.slice A1_0 l1_0.length c1_0, .slice A1_1 l1_1.length c1_1, .slice A1_2 l1_2.length c1_2]) (t := 25) ?hr ?_; (case hd => rfl); (case hg => rfl); (case hr => first | (go_simp; done) | (go_simp; rfl)); intro gb141 hg w5 hbox hb; have n0_ := Aside0.mk (blk_below (g := gb140) (o := .cells #[.slice A0_0 l0_0.length c0_0, .slice A0_1 l0_1.length c0_1, .slice A0_2 l0_2.length c0_2] 25 (0, 0)) (by (with_reducible repeat (first | refine blk_drewN ?_ _ | refine blk_drew ?_ | refine blk_alloc ?_ _)); exact BK140.out) hb); have n1_ := Aside0.mk (below_step (by repeat (first | (with_reducible first | exact HB.out | apply below_alloc | apply pw_below_drewN | apply below_drew1 | refine below_set ?_ GE140.out) | exact HB.out)) hb); have n2_ := Aside0.mk (hbox); have n3_ := Aside0.mk ((by rw [hg]; exact (below_size (by repeat (first | (with_reducible first | exact HB.out | apply below_alloc | apply pw_below_drewN | apply below_drew1 | refine below_set ?_ GE140.out) | exact HB.out))) : w.heap.size ≤ gb141)); have n4_ := Aside0.mk ((by rw [hg]; exact (below_size (by repeat (first | (with_reducible first | exact HB.out | apply below_alloc | apply pw_below_drewN | apply below_drew1 | refine below_set ?_ GE140.out) | exact HB.out))) : w.heap.size ≤ gb141)); have n5_ := Aside0.mk ((by rw [hg]; exact Nat.ne_of_lt (blk_lt (g := gb140) (o := .cells #[.slice A0_0 l0_0.length c0_0, .slice A0_1 l0_1.length c0_1, .slice A0_2 l0_2.length c0_2] 25 (0, 0)) (by (with_reducible repeat (first | refine blk_drewN ?_ _ | refine blk_drew ?_ | refine blk_alloc ?_ _)); exact BK140.out)) : gb140 ≠ gb141)); have n6_ := Aside0.mk ((by rw [hg]; exact Nat.ne_of_gt (blk_lt (g := gb140) (o := .cells #[.slice A0_0 l0_0.length c0_0, .slice A0_1 l0_1.length c0_1, .slice A0_2 l0_2.length c0_2] 25 (0, 0)) (by (with_reducible repeat (first | refine blk_drewN ?_ _ | refine blk_drew ?_ | refine blk_alloc ?_ _)); exact BK140.out)) : gb141 ≠ gb140)); clear BK140; clear HB; have BK140 := n0_; have HB := n1_; have BK141 := n2_; have GW141 := n3_; have GE141 := n4_; have NB140_141 := n5_; have NB141_140 := n6_; clear n0_ n1_ n2_ n3_ n4_ n5_ n6_; clear hb hbox hg)); go_upto_region 1 with (first | ((with_reducible refine gate_dst (N := 2) rfl ?_); (try (refine gate_guard (by rfl) ?_; dsimp only)); refine box_event ?hg (N := 2) ?hd (cs := #[.slice A0_0 l0_0.length c0_0, .slice A0_1 l0_1.length c0_1, .slice A0_2 l0_2.length c0_2]) (t := 25) ?hr ?_; (case hd => rfl); (case hg => rfl); (case hr => first | (go_simp; done) | (go_simp; rfl)); intro gb140 hg w4 hbox hb; have n0_ := Aside0.mk (below_step (by repeat (first | (with_reducible first | exact HB.out | apply below_alloc | apply pw_below_drewN | apply below_drew1) | exact HB.out)) hb); have n1_ := Aside0.mk (hbox); have n2_ := Aside0.mk ((by rw [hg]; exact (below_size (by repeat (first | (with_reducible first | exact HB.out | apply below_alloc | apply pw_below_drewN | apply below_drew1) | exact HB.out))) : w.heap.size ≤ gb140)); have n3_ := Aside0.mk ((by rw [hg]; exact (below_size (by repeat (first | (with_reducible first | exact HB.out | apply below_alloc | apply pw_below_drewN | apply below_drew1) | exact HB.out))) : w.heap.size ≤ gb140)); clear HB; have HB := n0_; have BK140 := n1_; have GW140 := n2_; have GE140 := n3_; clear n0_ n1_ n2_ n3_; clear hb hbox hg) | ((with_reducible refine gate_dst (N := 3) rfl ?_); (try (refine gate_guard (by rfl) ?_; dsimp only)); refine box_event ?hg (N := 3) ?hd (cs := #[.slice A1_0 l1_0.length c1_0, .slice A1_1 l1_1.length c1_1, .slice A1_2 l1_2.length c1_2]) (t := 25) ?hr ?_; (case hd => rfl); (case hg => rfl); (case hr => first | (go_simp; done) | (go_simp; rfl)); intro gb141 hg w5 hbox hb; have n0_ := Aside0.mk (blk_below (g := gb140) (o := .cells #[.slice A0_0 l0_0.length c0_0, .slice A0_1 l0_1.length c0_1, .slice A0_2 l0_2.length c0_2] 25 (0, 0)) (by (with_reducible repeat (first | refine blk_drewN ?_ _ | refine blk_drew ?_ | refine blk_alloc ?_ _)); exact BK140.out) hb); have n1_ := Aside0.mk (below_step (by repeat (first | (with_reducible first | exact HB.out | apply below_alloc | apply pw_below_drewN | apply below_drew1 | refine below_set ?_ GE140.out) | exact HB.out)) hb); have n2_ := Aside0.mk (hbox); have n3_ := Aside0.mk ((by rw [hg]; exact (below_size (by repeat (first | (with_reducible first | exact HB.out | apply below_alloc | apply pw_below_drewN | apply below_drew1 | refine below_set ?_ GE140.out) | exact HB.out))) : w.heap.size ≤ gb141)); have n4_ := Aside0.mk ((by rw [hg]; exact (below_size (by repeat (first | (with_reducible first | exact HB.out | apply below_alloc | apply pw_below_drewN | apply below_drew1 | refine below_set ?_ GE140.out) | exact HB.out))) : w.heap.size ≤ gb141)); have n5_ := Aside0.mk ((by rw [hg]; exact Nat.ne_of_lt (blk_lt (g := gb140) (o := .cells #[.slice A0_0 l0_0.length c0_0, .slice A0_1 l0_1.length c0_1, .slice A0_2 l0_2.length c0_2] 25 (0, 0)) (by (with_reducible repeat (first | refine blk_drewN ?_ _ | refine blk_drew ?_ | refine blk_alloc ?_ _)); exact BK140.out)) : gb140 ≠ gb141)); have n6_ := Aside0.mk ((by rw [hg]; exact Nat.ne_of_gt (blk_lt (g := gb140) (o := .cells #[.slice A0_0 l0_0.length c0_0, .slice A0_1 l0_1.length c0_1, .slice A0_2 l0_2.length c0_2] 25 (0, 0)) (by (with_reducible repeat (first | refine blk_drewN ?_ _ | refine blk_drew ?_ | refine blk_alloc ?_ _)); exact BK140.out)) : gb141 ≠ gb140)); clear BK140; clear HB; have BK140 := n0_; have HB := n1_; have BK141 := n2_; have GW141 := n3_; have GE141 := n4_; have NB140_141 := n5_; have NB141_140 := n6_; clear n0_ n1_ n2_ n3_ n4_ n5_ n6_; clear hb hbox hg)))
  (try simp only [Act.put, List.setIfInBounds_toArray, List.set_cons_zero, List.set_cons_succ])
  go_cut [32] (fun v32 wc => ∃ (kq : Nat) (x32_2 : Bool), v32 = .bool x32_2 ∧ Aside0 (vellumref17_Same.j0 kq x32_2 l0_0 l0_1 l0_2 l1_0 l1_1 l1_2 = some r) ∧ Aside0 (kq ≤ k) ∧ Aside0 (wc.heap[gb140]? = some (.cells #[(.slice A0_0 l0_0.length c0_0), (.slice A0_1 l0_1.length c0_1), (.slice A0_2 l0_2.length c0_2)] 25 (0, 0))) ∧ Aside0 (wc.heap[gb141]? = some (.cells #[(.slice A1_0 l1_0.length c1_0), (.slice A1_1 l1_1.length c1_1), (.slice A1_2 l1_2.length c1_2)] 25 (0, 0))) ∧ Aside0 (Below w.heap.size w wc))
  case first =>
    have H := HC3.out
    clear HC3
    by_cases c6 : (l0_0.length : Int) = (l1_0.length : Int)
    · rw [if_pos c6] at H
      have c6b0 : ((l0_0.length : Int) == (l1_0.length : Int)) = true := beq_iff_eq.mpr c6
      have c6b1 : ((l0_0.length : Int) != (l1_0.length : Int)) = false := bne_eq_false_iff_eq.mpr c6
      have c6b2 : (l0_0.length == l1_0.length) = true := by first | simpa using c6 | (simp at c6 ⊢; omega)
      clear c6
      (first | rw [c6b0] | (simp only [i64_w, i32_w]; rw [c6b0]) | skip)
      by_cases c7 : (l0_1.length : Int) = (l1_1.length : Int)
      · rw [if_pos c7] at H
        have c7b0 : ((l0_1.length : Int) == (l1_1.length : Int)) = true := beq_iff_eq.mpr c7
        have c7b1 : ((l0_1.length : Int) != (l1_1.length : Int)) = false := bne_eq_false_iff_eq.mpr c7
        have c7b2 : (l0_1.length == l1_1.length) = true := by first | simpa using c7 | (simp at c7 ⊢; omega)
        clear c7
        have H' := Aside0.mk H
        clear H
        have hnb8 := NB140_141.out
        have hnc8 := NB141_140.out
        have hcz9_0 : w5.cell? ⟨gb140, 0, none⟩ = some (.slice A0_0 l0_0.length c0_0) := (blk_cell BK140.out 0).trans rfl
        have hcz9_1 : w5.cell? ⟨gb140, 1, none⟩ = some (.slice A0_1 l0_1.length c0_1) := (blk_cell BK140.out 1).trans rfl
        have hcz9_2 : w5.cell? ⟨gb140, 2, none⟩ = some (.slice A0_2 l0_2.length c0_2) := (blk_cell BK140.out 2).trans rfl
        have hfz9_0 := blk_frozen BK140.out 0
        have hfz9_1 := blk_frozen BK140.out 1
        have hfz9_2 := blk_frozen BK140.out 2
        have hcz10_0 : w5.cell? ⟨gb141, 0, none⟩ = some (.slice A1_0 l1_0.length c1_0) := (blk_cell BK141.out 0).trans rfl
        have hcz10_1 : w5.cell? ⟨gb141, 1, none⟩ = some (.slice A1_1 l1_1.length c1_1) := (blk_cell BK141.out 1).trans rfl
        have hcz10_2 : w5.cell? ⟨gb141, 2, none⟩ = some (.slice A1_2 l1_2.length c1_2) := (blk_cell BK141.out 2).trans rfl
        have hfz10_0 := blk_frozen BK141.out 0
        have hfz10_1 := blk_frozen BK141.out 1
        have hfz10_2 := blk_frozen BK141.out 2
        go_wp2
        repeat (go_quiet (fail); try go_wp2)
        go_meet
        case rel => exact ⟨_, (((l0_2.length : Int) != (l1_2.length : Int))), (by first | rfl | (simp; done) | (simp [*]; done) | (simp [bool_ne_nil]; done) | (simp; exact bool_ne_nil _)), H', ⟨by first | omega | exact Nat.le_refl _⟩, ⟨by (with_reducible repeat (first | refine blk_drewN ?_ _ | refine blk_drew ?_ | refine blk_alloc ?_ _)); exact BK140.out⟩, ⟨by (with_reducible repeat (first | refine blk_drewN ?_ _ | refine blk_drew ?_ | refine blk_alloc ?_ _)); exact BK141.out⟩, ⟨by repeat (first | (with_reducible first | exact HB.out | apply below_alloc | apply pw_below_drewN | apply below_drew1 | refine below_set ?_ GE140.out | refine below_set ?_ GE141.out) | exact HB.out)⟩⟩
      · rw [if_neg c7] at H
        have c7b0 : ((l0_1.length : Int) == (l1_1.length : Int)) = false := beq_eq_false_iff_ne.mpr c7
        have c7b1 : ((l0_1.length : Int) != (l1_1.length : Int)) = true := bne_iff_ne.mpr c7
        have c7b2 : (l0_1.length == l1_1.length) = false := by first | simpa using c7 | (simp at c7 ⊢; omega)
        have H' := Aside0.mk H
        clear H
        have hnb11 := NB140_141.out
        have hnc11 := NB141_140.out
        have hcz12_0 : w5.cell? ⟨gb140, 0, none⟩ = some (.slice A0_0 l0_0.length c0_0) := (blk_cell BK140.out 0).trans rfl
        have hcz12_1 : w5.cell? ⟨gb140, 1, none⟩ = some (.slice A0_1 l0_1.length c0_1) := (blk_cell BK140.out 1).trans rfl
        have hcz12_2 : w5.cell? ⟨gb140, 2, none⟩ = some (.slice A0_2 l0_2.length c0_2) := (blk_cell BK140.out 2).trans rfl
        have hfz12_0 := blk_frozen BK140.out 0
        have hfz12_1 := blk_frozen BK140.out 1
        have hfz12_2 := blk_frozen BK140.out 2
        have hcz13_0 : w5.cell? ⟨gb141, 0, none⟩ = some (.slice A1_0 l1_0.length c1_0) := (blk_cell BK141.out 0).trans rfl
        have hcz13_1 : w5.cell? ⟨gb141, 1, none⟩ = some (.slice A1_1 l1_1.length c1_1) := (blk_cell BK141.out 1).trans rfl
        have hcz13_2 : w5.cell? ⟨gb141, 2, none⟩ = some (.slice A1_2 l1_2.length c1_2) := (blk_cell BK141.out 2).trans rfl
        have hfz13_0 := blk_frozen BK141.out 0
        have hfz13_1 := blk_frozen BK141.out 1
        have hfz13_2 := blk_frozen BK141.out 2
        go_wp2
        repeat (go_quiet (fail); try go_wp2)
        go_meet
        case rel => exact ⟨_, (true), (by first | rfl | (simp; done) | (simp [*]; done) | (simp [bool_ne_nil]; done) | (simp; exact bool_ne_nil _)), H', ⟨by first | omega | exact Nat.le_refl _⟩, ⟨by (with_reducible repeat (first | refine blk_drewN ?_ _ | refine blk_drew ?_ | refine blk_alloc ?_ _)); exact BK140.out⟩, ⟨by (with_reducible repeat (first | refine blk_drewN ?_ _ | refine blk_drew ?_ | refine blk_alloc ?_ _)); exact BK141.out⟩, ⟨by repeat (first | (with_reducible first | exact HB.out | apply below_alloc | apply pw_below_drewN | apply below_drew1 | refine below_set ?_ GE140.out | refine below_set ?_ GE141.out) | exact HB.out)⟩⟩
    · rw [if_neg c6] at H
      have c6b0 : ((l0_0.length : Int) == (l1_0.length : Int)) = false := beq_eq_false_iff_ne.mpr c6
      have c6b1 : ((l0_0.length : Int) != (l1_0.length : Int)) = true := bne_iff_ne.mpr c6
      have c6b2 : (l0_0.length == l1_0.length) = false := by first | simpa using c6 | (simp at c6 ⊢; omega)
      (first | rw [c6b0] | (simp only [i64_w, i32_w]; rw [c6b0]) | skip)
      have H' := Aside0.mk H
      clear H
      have hnb14 := NB140_141.out
      have hnc14 := NB141_140.out
      have hcz15_0 : w5.cell? ⟨gb140, 0, none⟩ = some (.slice A0_0 l0_0.length c0_0) := (blk_cell BK140.out 0).trans rfl
      have hcz15_1 : w5.cell? ⟨gb140, 1, none⟩ = some (.slice A0_1 l0_1.length c0_1) := (blk_cell BK140.out 1).trans rfl
      have hcz15_2 : w5.cell? ⟨gb140, 2, none⟩ = some (.slice A0_2 l0_2.length c0_2) := (blk_cell BK140.out 2).trans rfl
      have hfz15_0 := blk_frozen BK140.out 0
      have hfz15_1 := blk_frozen BK140.out 1
      have hfz15_2 := blk_frozen BK140.out 2
      have hcz16_0 : w5.cell? ⟨gb141, 0, none⟩ = some (.slice A1_0 l1_0.length c1_0) := (blk_cell BK141.out 0).trans rfl
      have hcz16_1 : w5.cell? ⟨gb141, 1, none⟩ = some (.slice A1_1 l1_1.length c1_1) := (blk_cell BK141.out 1).trans rfl
      have hcz16_2 : w5.cell? ⟨gb141, 2, none⟩ = some (.slice A1_2 l1_2.length c1_2) := (blk_cell BK141.out 2).trans rfl
      have hfz16_0 := blk_frozen BK141.out 0
      have hfz16_1 := blk_frozen BK141.out 1
      have hfz16_2 := blk_frozen BK141.out 2
      go_wp2
      repeat (go_quiet (fail); try go_wp2)
      go_meet
      case rel => exact ⟨_, (true), (by first | rfl | (simp; done) | (simp [*]; done) | (simp [bool_ne_nil]; done) | (simp; exact bool_ne_nil _)), H', ⟨by first | omega | exact Nat.le_refl _⟩, ⟨by (with_reducible repeat (first | refine blk_drewN ?_ _ | refine blk_drew ?_ | refine blk_alloc ?_ _)); exact BK140.out⟩, ⟨by (with_reducible repeat (first | refine blk_drewN ?_ _ | refine blk_drew ?_ | refine blk_alloc ?_ _)); exact BK141.out⟩, ⟨by repeat (first | (with_reducible first | exact HB.out | apply below_alloc | apply pw_below_drewN | apply below_drew1 | refine below_set ?_ GE140.out | refine below_set ?_ GE141.out) | exact HB.out)⟩⟩
  case rest =>
    clear HC3
    try clear c1
    try clear p2
    try clear c6
    try clear c6b0
    try clear c6b1
    try clear c6b2
    try clear c7
    try clear c7b0
    try clear c7b1
    try clear c7b2
    try clear c8
    try clear c10
    try clear c11
    try clear c14
    try clear hcz10_0
    try clear hcz10_1
    try clear hcz10_2
    try clear hcz12_0
    try clear hcz12_1
    try clear hcz12_2
    try clear hcz13_0
    try clear hcz13_1
    try clear hcz13_2
    try clear hcz15_0
    try clear hcz15_1
    try clear hcz15_2
    try clear hcz16_0
    try clear hcz16_1
    try clear hcz16_2
    try clear hcz9_0
    try clear hcz9_1
    try clear hcz9_2
    try clear hfz10_0
    try clear hfz10_1
    try clear hfz10_2
    try clear hfz12_0
    try clear hfz12_1
    try clear hfz12_2
    try clear hfz13_0
    try clear hfz13_1
    try clear hfz13_2
    try clear hfz15_0
    try clear hfz15_1
    try clear hfz15_2
    try clear hfz16_0
    try clear hfz16_1
    try clear hfz16_2
    try clear hfz9_0
    try clear hfz9_1
    try clear hfz9_2
    obtain ⟨kq, x32_2, rfl, HA, HJ2, BK140, BK141, HB⟩ := hcut
    cases kq with
    | zero => exact absurd HA.out (by simp [vellumref17_Same.j0])
    | succ kj2 =>
      have H := HA.out
      clear HA
      simp only [vellumref17_Same.j0] at H
      by_cases c17 : x32_2 = true
      · subst c17
        have H1 : (some false) = some r := by rw [if_pos rfl] at H; exact H
        clear H
        have H := H1
        clear H1
        obtain rfl := Option.some.inj H
        go_wp2
        repeat (go_quiet (fail); try go_wp2)
        go_ret
        exact ⟨by first | rfl | (simp [errW_none, errW_some] <;> rfl) | (simp [*, errW_none, errW_some] <;> rfl), by repeat (first | (with_reducible first | exact HB.out | apply below_alloc | apply pw_below_drewN | apply below_drew1 | refine below_set ?_ GE140.out | refine below_set ?_ GE141.out) | exact HB.out)⟩
      · replace c17 := Bool.eq_false_iff.mpr c17
        subst c17
        have H1 : (vellumref17_Same.l0 kj2 0 l0_0 l0_1 l0_2 l1_0 l1_1 l1_2) = some r := by rw [if_neg (show ¬ (false = true) by decide)] at H; exact H
        clear H
        have H := H1
        clear H1
        have H' := Aside0.mk H
        clear H
        go_wp2
        repeat (go_quiet (fail); try go_wp2)
        go_loopg [5] kj2 (fun kq v5 w' => ∃ (x5_2 : Int), v5 = .int .i64 x5_2 ∧ Aside0 (vellumref17_Same.l0 kq x5_2 l0_0 l0_1 l0_2 l1_0 l1_1 l1_2 = some r) ∧ Aside0 (kq ≤ kj2) ∧ Aside0 (w'.heap[gb140]? = some (.cells #[(.slice A0_0 l0_0.length c0_0), (.slice A0_1 l0_1.length c0_1), (.slice A0_2 l0_2.length c0_2)] 25 (0, 0))) ∧ Aside0 (w'.heap[gb141]? = some (.cells #[(.slice A1_0 l1_0.length c1_0), (.slice A1_1 l1_1.length c1_1), (.slice A1_2 l1_2.length c1_2)] 25 (0, 0))) ∧ Aside0 (Below w.heap.size w w'))
        case atStart => exact ⟨(0), (by first | rfl | (simp; done) | (simp [*]; done) | (simp [bool_ne_nil]; done) | (simp; exact bool_ne_nil _)), H', ⟨Nat.le_refl _⟩, ⟨by (with_reducible repeat (first | refine blk_drewN ?_ _ | refine blk_drew ?_ | refine blk_alloc ?_ _)); exact BK140.out⟩, ⟨by (with_reducible repeat (first | refine blk_drewN ?_ _ | refine blk_drew ?_ | refine blk_alloc ?_ _)); exact BK141.out⟩, ⟨by repeat (first | (with_reducible first | exact HB.out | apply below_alloc | apply pw_below_drewN | apply below_drew1 | refine below_set ?_ GE140.out | refine below_set ?_ GE141.out) | exact HB.out)⟩⟩
        case round =>
          clear H'
          try clear c1
          try clear p2
          try clear c6
          try clear c6b0
          try clear c6b1
          try clear c6b2
          try clear c7
          try clear c7b0
          try clear c7b1
          try clear c7b2
          try clear c8
          try clear c10
          try clear c11
          try clear c14
          try clear c17
          try clear hcz10_0
          try clear hcz10_1
          try clear hcz10_2
          try clear hcz12_0
          try clear hcz12_1
          try clear hcz12_2
          try clear hcz13_0
          try clear hcz13_1
          try clear hcz13_2
          try clear hcz15_0
          try clear hcz15_1
          try clear hcz15_2
          try clear hcz16_0
          try clear hcz16_1
          try clear hcz16_2
          try clear hcz9_0
          try clear hcz9_1
          try clear hcz9_2
          try clear hfz10_0
          try clear hfz10_1
          try clear hfz10_2
          try clear hfz12_0
          try clear hfz12_1
          try clear hfz12_2
          try clear hfz13_0
          try clear hfz13_1
          try clear hfz13_2
          try clear hfz15_0
          try clear hfz15_1
          try clear hfz15_2
          try clear hfz16_0
          try clear hfz16_1
          try clear hfz16_2
          try clear hfz9_0
          try clear hfz9_1
          try clear hfz9_2
          try clear p2
          obtain ⟨x5_2, rfl, HA, HK2, BK140, BK141, HB⟩ := hrel
          cases gk with
          | zero => exact absurd HA.out (by simp [vellumref17_Same.l0])
          | succ k2 =>
            have H := HA.out
            clear HA
            simp only [vellumref17_Same.l0] at H
            by_cases c18 : x5_2 < (l0_0.length : Int)
            · rw [if_pos c18] at H
              have c18b0 : decide (x5_2 < (l0_0.length : Int)) = true := decide_eq_true c18
              clear c18
              by_cases c19 : 0 ≤ x5_2
              · rw [if_pos c19] at H
                have c19b0 : decide (0 ≤ x5_2) = true := decide_eq_true c19
                clear c19
                by_cases c20 : x5_2 < (l1_0.length : Int)
                · rw [if_pos c20] at H
                  have c20b0 : decide (x5_2 < (l1_0.length : Int)) = true := decide_eq_true c20
                  clear c20
                  by_cases c21 : (!(((rd_T37 l0_0 x5_2).f0) == ((rd_T37 l1_0 x5_2).f0)) || (!(((rd_T37 l0_0 x5_2).f1) == ((rd_T37 l1_0 x5_2).f1)) || (!((((rd_T37 l0_0 x5_2).f2).toList) == (((rd_T37 l1_0 x5_2).f2).toList))))) = true
                  · rw [if_pos c21] at H
                    have c21b0 : (!(((rd_T37 l0_0 x5_2).f0) == ((rd_T37 l1_0 x5_2).f0)) || (!(((rd_T37 l0_0 x5_2).f1) == ((rd_T37 l1_0 x5_2).f1)) || (!((((rd_T37 l0_0 x5_2).f2).toList) == (((rd_T37 l1_0 x5_2).f2).toList))))) = true := c21
                    clear c21
                    obtain rfl := Option.some.inj H
                    have hnb22 := NB140_141.out
                    have hnc22 := NB141_140.out
                    have hcz23_0 : wr.cell? ⟨gb140, 0, none⟩ = some (.slice A0_0 l0_0.length c0_0) := (blk_cell BK140.out 0).trans rfl
                    have hcz23_1 : wr.cell? ⟨gb140, 1, none⟩ = some (.slice A0_1 l0_1.length c0_1) := (blk_cell BK140.out 1).trans rfl
                    have hcz23_2 : wr.cell? ⟨gb140, 2, none⟩ = some (.slice A0_2 l0_2.length c0_2) := (blk_cell BK140.out 2).trans rfl
                    have hfz23_0 := blk_frozen BK140.out 0
                    have hfz23_1 := blk_frozen BK140.out 1
                    have hfz23_2 := blk_frozen BK140.out 2
                    have p142 : 0 ≤ (x5_2 : Int) := of_decide_eq_true (by first | (with_reducible assumption) | assumption)
                    have q142 : x5_2 < (l0_0.length : Int) := of_decide_eq_true (by first | (with_reducible assumption) | assumption)
                    obtain ⟨ad142, e142, hx142_0, hx142_1, hx142_2⟩ := at_T37 HR0_0.out x5_2 p142 q142
                    cases e142
                    replace hx142_0 := (HB.out.cell (World.block_lt_of_cell? w _ hx142_0)).trans hx142_0
                    replace hx142_1 := (HB.out.cell (World.block_lt_of_cell? w _ hx142_1)).trans hx142_1
                    replace hx142_2 := (HB.out.cell (World.block_lt_of_cell? w _ hx142_2)).trans hx142_2
                    replace p142 := eq_true p142
                    replace q142 := eq_true q142
                    have hcz24_0 : wr.cell? ⟨gb141, 0, none⟩ = some (.slice A1_0 l1_0.length c1_0) := (blk_cell BK141.out 0).trans rfl
                    have hcz24_1 : wr.cell? ⟨gb141, 1, none⟩ = some (.slice A1_1 l1_1.length c1_1) := (blk_cell BK141.out 1).trans rfl
                    have hcz24_2 : wr.cell? ⟨gb141, 2, none⟩ = some (.slice A1_2 l1_2.length c1_2) := (blk_cell BK141.out 2).trans rfl
                    have hfz24_0 := blk_frozen BK141.out 0
                    have hfz24_1 := blk_frozen BK141.out 1
                    have hfz24_2 := blk_frozen BK141.out 2
                    have p143 : 0 ≤ (x5_2 : Int) := of_decide_eq_true (by first | (with_reducible assumption) | assumption)
                    have q143 : x5_2 < (l1_0.length : Int) := of_decide_eq_true (by first | (with_reducible assumption) | assumption)
                    obtain ⟨ad143, e143, hx143_0, hx143_1, hx143_2⟩ := at_T37 HR1_0.out x5_2 p143 q143
                    cases e143
                    replace hx143_0 := (HB.out.cell (World.block_lt_of_cell? w _ hx143_0)).trans hx143_0
                    replace hx143_1 := (HB.out.cell (World.block_lt_of_cell? w _ hx143_1)).trans hx143_1
                    replace hx143_2 := (HB.out.cell (World.block_lt_of_cell? w _ hx143_2)).trans hx143_2
                    replace p143 := eq_true p143
                    replace q143 := eq_true q143
                    go_wp2
                    repeat (go_quiet (fail); try go_wp2)
                    go_ret
                    exact ⟨by first | rfl | (simp [errW_none, errW_some] <;> rfl) | (simp [*, errW_none, errW_some] <;> rfl), by repeat (first | (with_reducible first | exact HB.out | apply below_alloc | apply pw_below_drewN | apply below_drew1 | refine below_set ?_ GE140.out | refine below_set ?_ GE141.out) | exact HB.out)⟩
                  · rw [if_neg c21] at H
                    have c21b0 : (!(((rd_T37 l0_0 x5_2).f0) == ((rd_T37 l1_0 x5_2).f0)) || (!(((rd_T37 l0_0 x5_2).f1) == ((rd_T37 l1_0 x5_2).f1)) || (!((((rd_T37 l0_0 x5_2).f2).toList) == (((rd_T37 l1_0 x5_2).f2).toList))))) = false := by simpa using c21
                    clear c21
                    have H' := Aside0.mk H
                    clear H
                    have hnb25 := NB140_141.out
                    have hnc25 := NB141_140.out
                    have hcz26_0 : wr.cell? ⟨gb140, 0, none⟩ = some (.slice A0_0 l0_0.length c0_0) := (blk_cell BK140.out 0).trans rfl
                    have hcz26_1 : wr.cell? ⟨gb140, 1, none⟩ = some (.slice A0_1 l0_1.length c0_1) := (blk_cell BK140.out 1).trans rfl
                    have hcz26_2 : wr.cell? ⟨gb140, 2, none⟩ = some (.slice A0_2 l0_2.length c0_2) := (blk_cell BK140.out 2).trans rfl
                    have hfz26_0 := blk_frozen BK140.out 0
                    have hfz26_1 := blk_frozen BK140.out 1
                    have hfz26_2 := blk_frozen BK140.out 2
                    have p142 : 0 ≤ (x5_2 : Int) := of_decide_eq_true (by first | (with_reducible assumption) | assumption)
                    have q142 : x5_2 < (l0_0.length : Int) := of_decide_eq_true (by first | (with_reducible assumption) | assumption)
                    obtain ⟨ad142, e142, hx142_0, hx142_1, hx142_2⟩ := at_T37 HR0_0.out x5_2 p142 q142
                    cases e142
                    replace hx142_0 := (HB.out.cell (World.block_lt_of_cell? w _ hx142_0)).trans hx142_0
                    replace hx142_1 := (HB.out.cell (World.block_lt_of_cell? w _ hx142_1)).trans hx142_1
                    replace hx142_2 := (HB.out.cell (World.block_lt_of_cell? w _ hx142_2)).trans hx142_2
                    replace p142 := eq_true p142
                    replace q142 := eq_true q142
                    have hcz27_0 : wr.cell? ⟨gb141, 0, none⟩ = some (.slice A1_0 l1_0.length c1_0) := (blk_cell BK141.out 0).trans rfl
                    have hcz27_1 : wr.cell? ⟨gb141, 1, none⟩ = some (.slice A1_1 l1_1.length c1_1) := (blk_cell BK141.out 1).trans rfl
                    have hcz27_2 : wr.cell? ⟨gb141, 2, none⟩ = some (.slice A1_2 l1_2.length c1_2) := (blk_cell BK141.out 2).trans rfl
                    have hfz27_0 := blk_frozen BK141.out 0
                    have hfz27_1 := blk_frozen BK141.out 1
                    have hfz27_2 := blk_frozen BK141.out 2
                    have p143 : 0 ≤ (x5_2 : Int) := of_decide_eq_true (by first | (with_reducible assumption) | assumption)
                    have q143 : x5_2 < (l1_0.length : Int) := of_decide_eq_true (by first | (with_reducible assumption) | assumption)
                    obtain ⟨ad143, e143, hx143_0, hx143_1, hx143_2⟩ := at_T37 HR1_0.out x5_2 p143 q143
                    cases e143
                    replace hx143_0 := (HB.out.cell (World.block_lt_of_cell? w _ hx143_0)).trans hx143_0
                    replace hx143_1 := (HB.out.cell (World.block_lt_of_cell? w _ hx143_1)).trans hx143_1
                    replace hx143_2 := (HB.out.cell (World.block_lt_of_cell? w _ hx143_2)).trans hx143_2
                    replace p143 := eq_true p143
                    replace q143 := eq_true q143
                    go_wp2
                    repeat (go_quiet (fail); try go_wp2)
                    go_roundg k2
                    case measure => have := HJ2.out; have := HK2.out; omega
                    case rel => exact ⟨(wrap64 (x5_2 + 1)), (by first | rfl | (simp; done) | (simp [*]; done) | (simp [bool_ne_nil]; done) | (simp; exact bool_ne_nil _)), H', ⟨by have := HJ2.out; have := HK2.out; omega⟩, ⟨by (with_reducible repeat (first | refine blk_drewN ?_ _ | refine blk_drew ?_ | refine blk_alloc ?_ _)); exact BK140.out⟩, ⟨by (with_reducible repeat (first | refine blk_drewN ?_ _ | refine blk_drew ?_ | refine blk_alloc ?_ _)); exact BK141.out⟩, ⟨by repeat (first | (with_reducible first | exact HB.out | apply below_alloc | apply pw_below_drewN | apply below_drew1 | refine below_set ?_ GE140.out | refine below_set ?_ GE141.out) | exact HB.out)⟩⟩
                · rw [if_neg c20] at H
                  exact absurd H (by simp)
              · rw [if_neg c19] at H
                exact absurd H (by simp)
            · rw [if_neg c18] at H
              have c18b0 : decide (x5_2 < (l0_0.length : Int)) = false := decide_eq_false c18
              clear c18
              have H' := Aside0.mk H
              clear H
              have hnb28 := NB140_141.out
              have hnc28 := NB141_140.out
              have hcz29_0 : wr.cell? ⟨gb140, 0, none⟩ = some (.slice A0_0 l0_0.length c0_0) := (blk_cell BK140.out 0).trans rfl
              have hcz29_1 : wr.cell? ⟨gb140, 1, none⟩ = some (.slice A0_1 l0_1.length c0_1) := (blk_cell BK140.out 1).trans rfl
              have hcz29_2 : wr.cell? ⟨gb140, 2, none⟩ = some (.slice A0_2 l0_2.length c0_2) := (blk_cell BK140.out 2).trans rfl
              have hfz29_0 := blk_frozen BK140.out 0
              have hfz29_1 := blk_frozen BK140.out 1
              have hfz29_2 := blk_frozen BK140.out 2
              go_wp2
              repeat (go_quiet (fail); try go_wp2)
              go_loopg [6] k2 (fun kq v6 w' => ∃ (x6_3 : Int), v6 = .int .i64 x6_3 ∧ Aside0 (vellumref17_Same.l1 kq x6_3 l0_0 l0_1 l0_2 l1_0 l1_1 l1_2 = some r) ∧ Aside0 (kq ≤ k2) ∧ Aside0 (w'.heap[gb140]? = some (.cells #[(.slice A0_0 l0_0.length c0_0), (.slice A0_1 l0_1.length c0_1), (.slice A0_2 l0_2.length c0_2)] 25 (0, 0))) ∧ Aside0 (w'.heap[gb141]? = some (.cells #[(.slice A1_0 l1_0.length c1_0), (.slice A1_1 l1_1.length c1_1), (.slice A1_2 l1_2.length c1_2)] 25 (0, 0))) ∧ Aside0 (Below w.heap.size w w'))
              case atStart => exact ⟨(0), (by first | rfl | (simp; done) | (simp [*]; done) | (simp [bool_ne_nil]; done) | (simp; exact bool_ne_nil _)), H', ⟨Nat.le_refl _⟩, ⟨by (with_reducible repeat (first | refine blk_drewN ?_ _ | refine blk_drew ?_ | refine blk_alloc ?_ _)); exact BK140.out⟩, ⟨by (with_reducible repeat (first | refine blk_drewN ?_ _ | refine blk_drew ?_ | refine blk_alloc ?_ _)); exact BK141.out⟩, ⟨by repeat (first | (with_reducible first | exact HB.out | apply below_alloc | apply pw_below_drewN | apply below_drew1 | refine below_set ?_ GE140.out | refine below_set ?_ GE141.out) | exact HB.out)⟩⟩
              case round =>
                clear H'
                try clear c1
                try clear p1
                try clear q1
                try clear hx1
                try clear c2
                try clear p2
                try clear c6
                try clear c6b0
                try clear c6b1
                try clear c6b2
                try clear p6
                try clear c7
                try clear c7b0
                try clear c7b1
                try clear c7b2
                try clear c8
                try clear c10
                try clear c11
                try clear c14
                try clear p14
                try clear q14
                try clear hx14
                try clear c17
                try clear c18
                try clear c18b0
                try clear c19
                try clear c19b0
                try clear c20
                try clear c20b0
                try clear c21
                try clear c21b0
                try clear c22
                try clear c25
                try clear c28
                try clear hcz10_0
                try clear hcz10_1
                try clear hcz10_2
                try clear hcz12_0
                try clear hcz12_1
                try clear hcz12_2
                try clear hcz13_0
                try clear hcz13_1
                try clear hcz13_2
                try clear hcz15_0
                try clear hcz15_1
                try clear hcz15_2
                try clear hcz16_0
                try clear hcz16_1
                try clear hcz16_2
                try clear hcz23_0
                try clear hcz23_1
                try clear hcz23_2
                try clear hcz24_0
                try clear hcz24_1
                try clear hcz24_2
                try clear hcz26_0
                try clear hcz26_1
                try clear hcz26_2
                try clear hcz27_0
                try clear hcz27_1
                try clear hcz27_2
                try clear hcz29_0
                try clear hcz29_1
                try clear hcz29_2
                try clear hcz9_0
                try clear hcz9_1
                try clear hcz9_2
                try clear hfz10_0
                try clear hfz10_1
                try clear hfz10_2
                try clear hfz12_0
                try clear hfz12_1
                try clear hfz12_2
                try clear hfz13_0
                try clear hfz13_1
                try clear hfz13_2
                try clear hfz15_0
                try clear hfz15_1
                try clear hfz15_2
                try clear hfz16_0
                try clear hfz16_1
                try clear hfz16_2
                try clear hfz23_0
                try clear hfz23_1
                try clear hfz23_2
                try clear hfz24_0
                try clear hfz24_1
                try clear hfz24_2
                try clear hfz26_0
                try clear hfz26_1
                try clear hfz26_2
                try clear hfz27_0
                try clear hfz27_1
                try clear hfz27_2
                try clear hfz29_0
                try clear hfz29_1
                try clear hfz29_2
                try clear hfz9_0
                try clear hfz9_1
                try clear hfz9_2
                try clear hx142_0
                try clear hx142_1
                try clear hx142_2
                try clear hx143_0
                try clear hx143_1
                try clear hx143_2
                try clear p142
                try clear p143
                try clear p2
                try clear q142
                try clear q143
                obtain ⟨x6_3, rfl, HA, HK3, BK140, BK141, HB⟩ := hrel
                cases gk with
                | zero => exact absurd HA.out (by simp [vellumref17_Same.l1])
                | succ k3 =>
                  have H := HA.out
                  clear HA
                  simp only [vellumref17_Same.l1] at H
                  by_cases c30 : x6_3 < (l0_1.length : Int)
                  · rw [if_pos c30] at H
                    have c30b0 : decide (x6_3 < (l0_1.length : Int)) = true := decide_eq_true c30
                    clear c30
                    by_cases c31 : 0 ≤ x6_3
                    · rw [if_pos c31] at H
                      have c31b0 : decide (0 ≤ x6_3) = true := decide_eq_true c31
                      clear c31
                      by_cases c32 : x6_3 < (l1_1.length : Int)
                      · rw [if_pos c32] at H
                        have c32b0 : decide (x6_3 < (l1_1.length : Int)) = true := decide_eq_true c32
                        clear c32
                        by_cases c33 : (!(((rd_T46 l0_1 x6_3).f0) == ((rd_T46 l1_1 x6_3).f0)) || (!(((rd_T46 l0_1 x6_3).f1) == ((rd_T46 l1_1 x6_3).f1)) || ((!((((rd_T46 l0_1 x6_3).f2.f0).toList) == (((rd_T46 l1_1 x6_3).f2.f0).toList)) || (!((((rd_T46 l0_1 x6_3).f2.f1).toList) == (((rd_T46 l1_1 x6_3).f2.f1).toList)) || (!(((rd_T46 l0_1 x6_3).f2.f2) == ((rd_T46 l1_1 x6_3).f2.f2)))))))) = true
                        · rw [if_pos c33] at H
                          have c33b0 : (!(((rd_T46 l0_1 x6_3).f0) == ((rd_T46 l1_1 x6_3).f0)) || (!(((rd_T46 l0_1 x6_3).f1) == ((rd_T46 l1_1 x6_3).f1)) || ((!((((rd_T46 l0_1 x6_3).f2.f0).toList) == (((rd_T46 l1_1 x6_3).f2.f0).toList)) || (!((((rd_T46 l0_1 x6_3).f2.f1).toList) == (((rd_T46 l1_1 x6_3).f2.f1).toList)) || (!(((rd_T46 l0_1 x6_3).f2.f2) == ((rd_T46 l1_1 x6_3).f2.f2)))))))) = true := c33
                          clear c33
                          obtain rfl := Option.some.inj H
                          have hnb34 := NB140_141.out
                          have hnc34 := NB141_140.out
                          have hcz35_0 : wr.cell? ⟨gb140, 0, none⟩ = some (.slice A0_0 l0_0.length c0_0) := (blk_cell BK140.out 0).trans rfl
                          have hcz35_1 : wr.cell? ⟨gb140, 1, none⟩ = some (.slice A0_1 l0_1.length c0_1) := (blk_cell BK140.out 1).trans rfl
                          have hcz35_2 : wr.cell? ⟨gb140, 2, none⟩ = some (.slice A0_2 l0_2.length c0_2) := (blk_cell BK140.out 2).trans rfl
                          have hfz35_0 := blk_frozen BK140.out 0
                          have hfz35_1 := blk_frozen BK140.out 1
                          have hfz35_2 := blk_frozen BK140.out 2
                          have p144 : 0 ≤ (x6_3 : Int) := of_decide_eq_true (by first | (with_reducible assumption) | assumption)
                          have q144 : x6_3 < (l0_1.length : Int) := of_decide_eq_true (by first | (with_reducible assumption) | assumption)
                          obtain ⟨ad144, e144, hx144_0, hx144_1, hx144_2, hx144_3, hx144_4⟩ := at_T46 HR0_1.out x6_3 p144 q144
                          cases e144
                          replace hx144_0 := (HB.out.cell (World.block_lt_of_cell? w _ hx144_0)).trans hx144_0
                          replace hx144_1 := (HB.out.cell (World.block_lt_of_cell? w _ hx144_1)).trans hx144_1
                          replace hx144_2 := (HB.out.cell (World.block_lt_of_cell? w _ hx144_2)).trans hx144_2
                          replace hx144_3 := (HB.out.cell (World.block_lt_of_cell? w _ hx144_3)).trans hx144_3
                          replace hx144_4 := (HB.out.cell (World.block_lt_of_cell? w _ hx144_4)).trans hx144_4
                          replace p144 := eq_true p144
                          replace q144 := eq_true q144
                          have hcz36_0 : wr.cell? ⟨gb141, 0, none⟩ = some (.slice A1_0 l1_0.length c1_0) := (blk_cell BK141.out 0).trans rfl
                          have hcz36_1 : wr.cell? ⟨gb141, 1, none⟩ = some (.slice A1_1 l1_1.length c1_1) := (blk_cell BK141.out 1).trans rfl
                          have hcz36_2 : wr.cell? ⟨gb141, 2, none⟩ = some (.slice A1_2 l1_2.length c1_2) := (blk_cell BK141.out 2).trans rfl
                          have hfz36_0 := blk_frozen BK141.out 0
                          have hfz36_1 := blk_frozen BK141.out 1
                          have hfz36_2 := blk_frozen BK141.out 2
                          have p145 : 0 ≤ (x6_3 : Int) := of_decide_eq_true (by first | (with_reducible assumption) | assumption)
                          have q145 : x6_3 < (l1_1.length : Int) := of_decide_eq_true (by first | (with_reducible assumption) | assumption)
                          obtain ⟨ad145, e145, hx145_0, hx145_1, hx145_2, hx145_3, hx145_4⟩ := at_T46 HR1_1.out x6_3 p145 q145
                          cases e145
                          replace hx145_0 := (HB.out.cell (World.block_lt_of_cell? w _ hx145_0)).trans hx145_0
                          replace hx145_1 := (HB.out.cell (World.block_lt_of_cell? w _ hx145_1)).trans hx145_1
                          replace hx145_2 := (HB.out.cell (World.block_lt_of_cell? w _ hx145_2)).trans hx145_2
                          replace hx145_3 := (HB.out.cell (World.block_lt_of_cell? w _ hx145_3)).trans hx145_3
                          replace hx145_4 := (HB.out.cell (World.block_lt_of_cell? w _ hx145_4)).trans hx145_4
                          replace p145 := eq_true p145
                          replace q145 := eq_true q145
                          go_wp2
                          repeat (go_quiet (fail); try go_wp2)
                          go_ret
                          exact ⟨by first | rfl | (simp [errW_none, errW_some] <;> rfl) | (simp [*, errW_none, errW_some] <;> rfl), by repeat (first | (with_reducible first | exact HB.out | apply below_alloc | apply pw_below_drewN | apply below_drew1 | refine below_set ?_ GE140.out | refine below_set ?_ GE141.out) | exact HB.out)⟩
                        · rw [if_neg c33] at H
                          have c33b0 : (!(((rd_T46 l0_1 x6_3).f0) == ((rd_T46 l1_1 x6_3).f0)) || (!(((rd_T46 l0_1 x6_3).f1) == ((rd_T46 l1_1 x6_3).f1)) || ((!((((rd_T46 l0_1 x6_3).f2.f0).toList) == (((rd_T46 l1_1 x6_3).f2.f0).toList)) || (!((((rd_T46 l0_1 x6_3).f2.f1).toList) == (((rd_T46 l1_1 x6_3).f2.f1).toList)) || (!(((rd_T46 l0_1 x6_3).f2.f2) == ((rd_T46 l1_1 x6_3).f2.f2)))))))) = false := by simpa using c33
                          clear c33
                          have H' := Aside0.mk H
                          clear H
                          have hnb37 := NB140_141.out
                          have hnc37 := NB141_140.out
                          have hcz38_0 : wr.cell? ⟨gb140, 0, none⟩ = some (.slice A0_0 l0_0.length c0_0) := (blk_cell BK140.out 0).trans rfl
                          have hcz38_1 : wr.cell? ⟨gb140, 1, none⟩ = some (.slice A0_1 l0_1.length c0_1) := (blk_cell BK140.out 1).trans rfl
                          have hcz38_2 : wr.cell? ⟨gb140, 2, none⟩ = some (.slice A0_2 l0_2.length c0_2) := (blk_cell BK140.out 2).trans rfl
                          have hfz38_0 := blk_frozen BK140.out 0
                          have hfz38_1 := blk_frozen BK140.out 1
                          have hfz38_2 := blk_frozen BK140.out 2
                          have p144 : 0 ≤ (x6_3 : Int) := of_decide_eq_true (by first | (with_reducible assumption) | assumption)
                          have q144 : x6_3 < (l0_1.length : Int) := of_decide_eq_true (by first | (with_reducible assumption) | assumption)
                          obtain ⟨ad144, e144, hx144_0, hx144_1, hx144_2, hx144_3, hx144_4⟩ := at_T46 HR0_1.out x6_3 p144 q144
                          cases e144
                          replace hx144_0 := (HB.out.cell (World.block_lt_of_cell? w _ hx144_0)).trans hx144_0
                          replace hx144_1 := (HB.out.cell (World.block_lt_of_cell? w _ hx144_1)).trans hx144_1
                          replace hx144_2 := (HB.out.cell (World.block_lt_of_cell? w _ hx144_2)).trans hx144_2
                          replace hx144_3 := (HB.out.cell (World.block_lt_of_cell? w _ hx144_3)).trans hx144_3
                          replace hx144_4 := (HB.out.cell (World.block_lt_of_cell? w _ hx144_4)).trans hx144_4
                          replace p144 := eq_true p144
                          replace q144 := eq_true q144
                          have hcz39_0 : wr.cell? ⟨gb141, 0, none⟩ = some (.slice A1_0 l1_0.length c1_0) := (blk_cell BK141.out 0).trans rfl
                          have hcz39_1 : wr.cell? ⟨gb141, 1, none⟩ = some (.slice A1_1 l1_1.length c1_1) := (blk_cell BK141.out 1).trans rfl
                          have hcz39_2 : wr.cell? ⟨gb141, 2, none⟩ = some (.slice A1_2 l1_2.length c1_2) := (blk_cell BK141.out 2).trans rfl
                          have hfz39_0 := blk_frozen BK141.out 0
                          have hfz39_1 := blk_frozen BK141.out 1
                          have hfz39_2 := blk_frozen BK141.out 2
                          have p145 : 0 ≤ (x6_3 : Int) := of_decide_eq_true (by first | (with_reducible assumption) | assumption)
                          have q145 : x6_3 < (l1_1.length : Int) := of_decide_eq_true (by first | (with_reducible assumption) | assumption)
                          obtain ⟨ad145, e145, hx145_0, hx145_1, hx145_2, hx145_3, hx145_4⟩ := at_T46 HR1_1.out x6_3 p145 q145
                          cases e145
                          replace hx145_0 := (HB.out.cell (World.block_lt_of_cell? w _ hx145_0)).trans hx145_0
                          replace hx145_1 := (HB.out.cell (World.block_lt_of_cell? w _ hx145_1)).trans hx145_1
                          replace hx145_2 := (HB.out.cell (World.block_lt_of_cell? w _ hx145_2)).trans hx145_2
                          replace hx145_3 := (HB.out.cell (World.block_lt_of_cell? w _ hx145_3)).trans hx145_3
                          replace hx145_4 := (HB.out.cell (World.block_lt_of_cell? w _ hx145_4)).trans hx145_4
                          replace p145 := eq_true p145
                          replace q145 := eq_true q145
                          go_wp2
                          repeat (go_quiet (fail); try go_wp2)
                          go_roundg k3
                          case measure => have := HJ2.out; have := HK2.out; have := HK3.out; omega
                          case rel => exact ⟨(wrap64 (x6_3 + 1)), (by first | rfl | (simp; done) | (simp [*]; done) | (simp [bool_ne_nil]; done) | (simp; exact bool_ne_nil _)), H', ⟨by have := HJ2.out; have := HK2.out; have := HK3.out; omega⟩, ⟨by (with_reducible repeat (first | refine blk_drewN ?_ _ | refine blk_drew ?_ | refine blk_alloc ?_ _)); exact BK140.out⟩, ⟨by (with_reducible repeat (first | refine blk_drewN ?_ _ | refine blk_drew ?_ | refine blk_alloc ?_ _)); exact BK141.out⟩, ⟨by repeat (first | (with_reducible first | exact HB.out | apply below_alloc | apply pw_below_drewN | apply below_drew1 | refine below_set ?_ GE140.out | refine below_set ?_ GE141.out) | exact HB.out)⟩⟩
                      · rw [if_neg c32] at H
                        exact absurd H (by simp)
                    · rw [if_neg c31] at H
                      exact absurd H (by simp)
                  · rw [if_neg c30] at H
                    have c30b0 : decide (x6_3 < (l0_1.length : Int)) = false := decide_eq_false c30
                    clear c30
                    have H' := Aside0.mk H
                    clear H
                    have hnb40 := NB140_141.out
                    have hnc40 := NB141_140.out
                    have hcz41_0 : wr.cell? ⟨gb140, 0, none⟩ = some (.slice A0_0 l0_0.length c0_0) := (blk_cell BK140.out 0).trans rfl
                    have hcz41_1 : wr.cell? ⟨gb140, 1, none⟩ = some (.slice A0_1 l0_1.length c0_1) := (blk_cell BK140.out 1).trans rfl
                    have hcz41_2 : wr.cell? ⟨gb140, 2, none⟩ = some (.slice A0_2 l0_2.length c0_2) := (blk_cell BK140.out 2).trans rfl
                    have hfz41_0 := blk_frozen BK140.out 0
                    have hfz41_1 := blk_frozen BK140.out 1
                    have hfz41_2 := blk_frozen BK140.out 2
                    go_wp2
                    repeat (go_quiet (fail); try go_wp2)
                    go_loopg [7] k3 (fun kq v7 w' => ∃ (x7_4 : Int), v7 = .int .i64 x7_4 ∧ Aside0 (vellumref17_Same.l2 kq x7_4 l0_0 l0_1 l0_2 l1_0 l1_1 l1_2 = some r) ∧ Aside0 (kq ≤ k3) ∧ Aside0 (w'.heap[gb140]? = some (.cells #[(.slice A0_0 l0_0.length c0_0), (.slice A0_1 l0_1.length c0_1), (.slice A0_2 l0_2.length c0_2)] 25 (0, 0))) ∧ Aside0 (w'.heap[gb141]? = some (.cells #[(.slice A1_0 l1_0.length c1_0), (.slice A1_1 l1_1.length c1_1), (.slice A1_2 l1_2.length c1_2)] 25 (0, 0))) ∧ Aside0 (Below w.heap.size w w'))
                    case atStart => exact ⟨(0), (by first | rfl | (simp; done) | (simp [*]; done) | (simp [bool_ne_nil]; done) | (simp; exact bool_ne_nil _)), H', ⟨Nat.le_refl _⟩, ⟨by (with_reducible repeat (first | refine blk_drewN ?_ _ | refine blk_drew ?_ | refine blk_alloc ?_ _)); exact BK140.out⟩, ⟨by (with_reducible repeat (first | refine blk_drewN ?_ _ | refine blk_drew ?_ | refine blk_alloc ?_ _)); exact BK141.out⟩, ⟨by repeat (first | (with_reducible first | exact HB.out | apply below_alloc | apply pw_below_drewN | apply below_drew1 | refine below_set ?_ GE140.out | refine below_set ?_ GE141.out) | exact HB.out)⟩⟩
                    case round =>
                      clear H'
                      try clear c1
                      try clear p1
                      try clear q1
                      try clear hx1
                      try clear c2
                      try clear p2
                      try clear c3
                      try clear c4
                      try clear c6
                      try clear c6b0
                      try clear c6b1
                      try clear c6b2
                      try clear p6
                      try clear c7
                      try clear c7b0
                      try clear c7b1
                      try clear c7b2
                      try clear c8
                      try clear c10
                      try clear c11
                      try clear c14
                      try clear p14
                      try clear q14
                      try clear hx14
                      try clear c17
                      try clear c18
                      try clear c18b0
                      try clear c19
                      try clear c19b0
                      try clear c20
                      try clear c20b0
                      try clear c21
                      try clear c21b0
                      try clear c22
                      try clear c25
                      try clear c28
                      try clear c30
                      try clear c30b0
                      try clear c31
                      try clear c31b0
                      try clear c32
                      try clear c32b0
                      try clear c33
                      try clear c33b0
                      try clear c34
                      try clear c37
                      try clear c40
                      try clear hcz10_0
                      try clear hcz10_1
                      try clear hcz10_2
                      try clear hcz12_0
                      try clear hcz12_1
                      try clear hcz12_2
                      try clear hcz13_0
                      try clear hcz13_1
                      try clear hcz13_2
                      try clear hcz15_0
                      try clear hcz15_1
                      try clear hcz15_2
                      try clear hcz16_0
                      try clear hcz16_1
                      try clear hcz16_2
                      try clear hcz23_0
                      try clear hcz23_1
                      try clear hcz23_2
                      try clear hcz24_0
                      try clear hcz24_1
                      try clear hcz24_2
                      try clear hcz26_0
                      try clear hcz26_1
                      try clear hcz26_2
                      try clear hcz27_0
                      try clear hcz27_1
                      try clear hcz27_2
                      try clear hcz29_0
                      try clear hcz29_1
                      try clear hcz29_2
                      try clear hcz35_0
                      try clear hcz35_1
                      try clear hcz35_2
                      try clear hcz36_0
                      try clear hcz36_1
                      try clear hcz36_2
                      try clear hcz38_0
                      try clear hcz38_1
                      try clear hcz38_2
                      try clear hcz39_0
                      try clear hcz39_1
                      try clear hcz39_2
                      try clear hcz41_0
                      try clear hcz41_1
                      try clear hcz41_2
                      try clear hcz9_0
                      try clear hcz9_1
                      try clear hcz9_2
                      try clear hfz10_0
                      try clear hfz10_1
                      try clear hfz10_2
                      try clear hfz12_0
                      try clear hfz12_1
                      try clear hfz12_2
                      try clear hfz13_0
                      try clear hfz13_1
                      try clear hfz13_2
                      try clear hfz15_0
                      try clear hfz15_1
                      try clear hfz15_2
                      try clear hfz16_0
                      try clear hfz16_1
                      try clear hfz16_2
                      try clear hfz23_0
                      try clear hfz23_1
                      try clear hfz23_2
                      try clear hfz24_0
                      try clear hfz24_1
                      try clear hfz24_2
                      try clear hfz26_0
                      try clear hfz26_1
                      try clear hfz26_2
                      try clear hfz27_0
                      try clear hfz27_1
                      try clear hfz27_2
                      try clear hfz29_0
                      try clear hfz29_1
                      try clear hfz29_2
                      try clear hfz35_0
                      try clear hfz35_1
                      try clear hfz35_2
                      try clear hfz36_0
                      try clear hfz36_1
                      try clear hfz36_2
                      try clear hfz38_0
                      try clear hfz38_1
                      try clear hfz38_2
                      try clear hfz39_0
                      try clear hfz39_1
                      try clear hfz39_2
                      try clear hfz41_0
                      try clear hfz41_1
                      try clear hfz41_2
                      try clear hfz9_0
                      try clear hfz9_1
                      try clear hfz9_2
                      try clear hx142_0
                      try clear hx142_1
                      try clear hx142_2
                      try clear hx143_0
                      try clear hx143_1
                      try clear hx143_2
                      try clear hx144_0
                      try clear hx144_1
                      try clear hx144_2
                      try clear hx144_3
                      try clear hx144_4
                      try clear hx145_0
                      try clear hx145_1
                      try clear hx145_2
                      try clear hx145_3
                      try clear hx145_4
                      try clear p1
                      try clear p14
                      try clear p142
                      try clear p143
                      try clear p144
                      try clear p145
                      try clear p2
                      try clear p6
                      try clear q1
                      try clear q14
                      try clear q142
                      try clear q143
                      try clear q144
                      try clear q145
                      obtain ⟨x7_4, rfl, HA, HK4, BK140, BK141, HB⟩ := hrel
                      cases gk with
                      | zero => exact absurd HA.out (by simp [vellumref17_Same.l2])
                      | succ k4 =>
                        have H := HA.out
                        clear HA
                        simp only [vellumref17_Same.l2] at H
                        by_cases c42 : x7_4 < (l0_2.length : Int)
                        · rw [if_pos c42] at H
                          have c42b0 : decide (x7_4 < (l0_2.length : Int)) = true := decide_eq_true c42
                          clear c42
                          by_cases c43 : 0 ≤ x7_4
                          · rw [if_pos c43] at H
                            have c43b0 : decide (0 ≤ x7_4) = true := decide_eq_true c43
                            clear c43
                            by_cases c44 : x7_4 < (l1_2.length : Int)
                            · rw [if_pos c44] at H
                              have c44b0 : decide (x7_4 < (l1_2.length : Int)) = true := decide_eq_true c44
                              clear c44
                              by_cases c45 : (!(((rd_T37 l0_2 x7_4).f0) == ((rd_T37 l1_2 x7_4).f0)) || (!(((rd_T37 l0_2 x7_4).f1) == ((rd_T37 l1_2 x7_4).f1)) || (!((((rd_T37 l0_2 x7_4).f2).toList) == (((rd_T37 l1_2 x7_4).f2).toList))))) = true
                              · rw [if_pos c45] at H
                                have c45b0 : (!(((rd_T37 l0_2 x7_4).f0) == ((rd_T37 l1_2 x7_4).f0)) || (!(((rd_T37 l0_2 x7_4).f1) == ((rd_T37 l1_2 x7_4).f1)) || (!((((rd_T37 l0_2 x7_4).f2).toList) == (((rd_T37 l1_2 x7_4).f2).toList))))) = true := c45
                                clear c45
                                obtain rfl := Option.some.inj H
                                have hnb46 := NB140_141.out
                                have hnc46 := NB141_140.out
                                have hcz47_0 : wr.cell? ⟨gb140, 0, none⟩ = some (.slice A0_0 l0_0.length c0_0) := (blk_cell BK140.out 0).trans rfl
                                have hcz47_1 : wr.cell? ⟨gb140, 1, none⟩ = some (.slice A0_1 l0_1.length c0_1) := (blk_cell BK140.out 1).trans rfl
                                have hcz47_2 : wr.cell? ⟨gb140, 2, none⟩ = some (.slice A0_2 l0_2.length c0_2) := (blk_cell BK140.out 2).trans rfl
                                have hfz47_0 := blk_frozen BK140.out 0
                                have hfz47_1 := blk_frozen BK140.out 1
                                have hfz47_2 := blk_frozen BK140.out 2
                                have p146 : 0 ≤ (x7_4 : Int) := of_decide_eq_true (by first | (with_reducible assumption) | assumption)
                                have q146 : x7_4 < (l0_2.length : Int) := of_decide_eq_true (by first | (with_reducible assumption) | assumption)
                                obtain ⟨ad146, e146, hx146_0, hx146_1, hx146_2⟩ := at_T37 HR0_2.out x7_4 p146 q146
                                cases e146
                                replace hx146_0 := (HB.out.cell (World.block_lt_of_cell? w _ hx146_0)).trans hx146_0
                                replace hx146_1 := (HB.out.cell (World.block_lt_of_cell? w _ hx146_1)).trans hx146_1
                                replace hx146_2 := (HB.out.cell (World.block_lt_of_cell? w _ hx146_2)).trans hx146_2
                                replace p146 := eq_true p146
                                replace q146 := eq_true q146
                                have hcz48_0 : wr.cell? ⟨gb141, 0, none⟩ = some (.slice A1_0 l1_0.length c1_0) := (blk_cell BK141.out 0).trans rfl
                                have hcz48_1 : wr.cell? ⟨gb141, 1, none⟩ = some (.slice A1_1 l1_1.length c1_1) := (blk_cell BK141.out 1).trans rfl
                                have hcz48_2 : wr.cell? ⟨gb141, 2, none⟩ = some (.slice A1_2 l1_2.length c1_2) := (blk_cell BK141.out 2).trans rfl
                                have hfz48_0 := blk_frozen BK141.out 0
                                have hfz48_1 := blk_frozen BK141.out 1
                                have hfz48_2 := blk_frozen BK141.out 2
                                have p147 : 0 ≤ (x7_4 : Int) := of_decide_eq_true (by first | (with_reducible assumption) | assumption)
                                have q147 : x7_4 < (l1_2.length : Int) := of_decide_eq_true (by first | (with_reducible assumption) | assumption)
                                obtain ⟨ad147, e147, hx147_0, hx147_1, hx147_2⟩ := at_T37 HR1_2.out x7_4 p147 q147
                                cases e147
                                replace hx147_0 := (HB.out.cell (World.block_lt_of_cell? w _ hx147_0)).trans hx147_0
                                replace hx147_1 := (HB.out.cell (World.block_lt_of_cell? w _ hx147_1)).trans hx147_1
                                replace hx147_2 := (HB.out.cell (World.block_lt_of_cell? w _ hx147_2)).trans hx147_2
                                replace p147 := eq_true p147
                                replace q147 := eq_true q147
                                go_wp2
                                repeat (go_quiet (fail); try go_wp2)
                                go_ret
                                exact ⟨by first | rfl | (simp [errW_none, errW_some] <;> rfl) | (simp [*, errW_none, errW_some] <;> rfl), by repeat (first | (with_reducible first | exact HB.out | apply below_alloc | apply pw_below_drewN | apply below_drew1 | refine below_set ?_ GE140.out | refine below_set ?_ GE141.out) | exact HB.out)⟩
                              · rw [if_neg c45] at H
                                have c45b0 : (!(((rd_T37 l0_2 x7_4).f0) == ((rd_T37 l1_2 x7_4).f0)) || (!(((rd_T37 l0_2 x7_4).f1) == ((rd_T37 l1_2 x7_4).f1)) || (!((((rd_T37 l0_2 x7_4).f2).toList) == (((rd_T37 l1_2 x7_4).f2).toList))))) = false := by simpa using c45
                                clear c45
                                have H' := Aside0.mk H
                                clear H
                                have hnb49 := NB140_141.out
                                have hnc49 := NB141_140.out
                                have hcz50_0 : wr.cell? ⟨gb140, 0, none⟩ = some (.slice A0_0 l0_0.length c0_0) := (blk_cell BK140.out 0).trans rfl
                                have hcz50_1 : wr.cell? ⟨gb140, 1, none⟩ = some (.slice A0_1 l0_1.length c0_1) := (blk_cell BK140.out 1).trans rfl
                                have hcz50_2 : wr.cell? ⟨gb140, 2, none⟩ = some (.slice A0_2 l0_2.length c0_2) := (blk_cell BK140.out 2).trans rfl
                                have hfz50_0 := blk_frozen BK140.out 0
                                have hfz50_1 := blk_frozen BK140.out 1
                                have hfz50_2 := blk_frozen BK140.out 2
                                have p146 : 0 ≤ (x7_4 : Int) := of_decide_eq_true (by first | (with_reducible assumption) | assumption)
                                have q146 : x7_4 < (l0_2.length : Int) := of_decide_eq_true (by first | (with_reducible assumption) | assumption)
                                obtain ⟨ad146, e146, hx146_0, hx146_1, hx146_2⟩ := at_T37 HR0_2.out x7_4 p146 q146
                                cases e146
                                replace hx146_0 := (HB.out.cell (World.block_lt_of_cell? w _ hx146_0)).trans hx146_0
                                replace hx146_1 := (HB.out.cell (World.block_lt_of_cell? w _ hx146_1)).trans hx146_1
                                replace hx146_2 := (HB.out.cell (World.block_lt_of_cell? w _ hx146_2)).trans hx146_2
                                replace p146 := eq_true p146
                                replace q146 := eq_true q146
                                have hcz51_0 : wr.cell? ⟨gb141, 0, none⟩ = some (.slice A1_0 l1_0.length c1_0) := (blk_cell BK141.out 0).trans rfl
                                have hcz51_1 : wr.cell? ⟨gb141, 1, none⟩ = some (.slice A1_1 l1_1.length c1_1) := (blk_cell BK141.out 1).trans rfl
                                have hcz51_2 : wr.cell? ⟨gb141, 2, none⟩ = some (.slice A1_2 l1_2.length c1_2) := (blk_cell BK141.out 2).trans rfl
                                have hfz51_0 := blk_frozen BK141.out 0
                                have hfz51_1 := blk_frozen BK141.out 1
                                have hfz51_2 := blk_frozen BK141.out 2
                                have p147 : 0 ≤ (x7_4 : Int) := of_decide_eq_true (by first | (with_reducible assumption) | assumption)
                                have q147 : x7_4 < (l1_2.length : Int) := of_decide_eq_true (by first | (with_reducible assumption) | assumption)
                                obtain ⟨ad147, e147, hx147_0, hx147_1, hx147_2⟩ := at_T37 HR1_2.out x7_4 p147 q147
                                cases e147
                                replace hx147_0 := (HB.out.cell (World.block_lt_of_cell? w _ hx147_0)).trans hx147_0
                                replace hx147_1 := (HB.out.cell (World.block_lt_of_cell? w _ hx147_1)).trans hx147_1
                                replace hx147_2 := (HB.out.cell (World.block_lt_of_cell? w _ hx147_2)).trans hx147_2
                                replace p147 := eq_true p147
                                replace q147 := eq_true q147
                                go_wp2
                                repeat (go_quiet (fail); try go_wp2)
                                go_roundg k4
                                case measure => have := HJ2.out; have := HK2.out; have := HK3.out; have := HK4.out; omega
                                case rel => exact ⟨(wrap64 (x7_4 + 1)), (by first | rfl | (simp; done) | (simp [*]; done) | (simp [bool_ne_nil]; done) | (simp; exact bool_ne_nil _)), H', ⟨by have := HJ2.out; have := HK2.out; have := HK3.out; have := HK4.out; omega⟩, ⟨by (with_reducible repeat (first | refine blk_drewN ?_ _ | refine blk_drew ?_ | refine blk_alloc ?_ _)); exact BK140.out⟩, ⟨by (with_reducible repeat (first | refine blk_drewN ?_ _ | refine blk_drew ?_ | refine blk_alloc ?_ _)); exact BK141.out⟩, ⟨by repeat (first | (with_reducible first | exact HB.out | apply below_alloc | apply pw_below_drewN | apply below_drew1 | refine below_set ?_ GE140.out | refine below_set ?_ GE141.out) | exact HB.out)⟩⟩
                            · rw [if_neg c44] at H
                              exact absurd H (by simp)
                          · rw [if_neg c43] at H
                            exact absurd H (by simp)
                        · rw [if_neg c42] at H
                          have c42b0 : decide (x7_4 < (l0_2.length : Int)) = false := decide_eq_false c42
                          clear c42
                          obtain rfl := Option.some.inj H
                          have hnb52 := NB140_141.out
                          have hnc52 := NB141_140.out
                          have hcz53_0 : wr.cell? ⟨gb140, 0, none⟩ = some (.slice A0_0 l0_0.length c0_0) := (blk_cell BK140.out 0).trans rfl
                          have hcz53_1 : wr.cell? ⟨gb140, 1, none⟩ = some (.slice A0_1 l0_1.length c0_1) := (blk_cell BK140.out 1).trans rfl
                          have hcz53_2 : wr.cell? ⟨gb140, 2, none⟩ = some (.slice A0_2 l0_2.length c0_2) := (blk_cell BK140.out 2).trans rfl
                          have hfz53_0 := blk_frozen BK140.out 0
                          have hfz53_1 := blk_frozen BK140.out 1
                          have hfz53_2 := blk_frozen BK140.out 2
                          go_wp2
                          repeat (go_quiet (fail); try go_wp2)
                          go_ret
                          exact ⟨by first | rfl | (simp [errW_none, errW_some] <;> rfl) | (simp [*, errW_none, errW_some] <;> rfl), by repeat (first | (with_reducible first | exact HB.out | apply below_alloc | apply pw_below_drewN | apply below_drew1 | refine below_set ?_ GE140.out | refine below_set ?_ GE141.out) | exact HB.out)⟩
end Go.Proofs.YtldlenjfpjihdaaGreat.PS
end
section
namespace Go.Proofs.YtldlenjfpjihdaaGreat.PS
open Go.RowKit Go.Proofs.YtldlenjfpjihdaaGreatW.PrintWords Go.Proofs.YtldlenjfpjihdaaGreatW.PrintLast Go.Proofs.YtldlenjfpjihdaaGreatW.PrintMore
attribute [local go_sem] max2_int min2_int max_two min_two max_three min_three max_four min_four
set_option linter.unusedVariables false
set_option linter.unusedSimpArgs false
def vellumref02_Has.f (a0_0 : ByteArray) (a0_1 : ByteArray) (a0_2 : Bool) (a1 : ByteArray) : Option (Bool) := if ((Op.bytesLess a1.toList a0_0.toList) = true) then (some false) else (if a0_2 = true then (some true) else (some (Op.bytesLess a1.toList a0_1.toList)))
def vellumref17_place.f (a0 : Int) (a1 : Int) : Option (Bool) := if a0 ≥ 0 then (some (decide (a1 ≥ (-1)))) else (some false)
end Go.Proofs.YtldlenjfpjihdaaGreat.PS
end
section
namespace Go.Proofs
open Go.Shelf
def Tryz.lays106_ren : Go.Shelf.Ren := ⟨fun | 106 => 74 | 213 => 86 | 265 => 109 | n => n, fun | 9 => 9 | 3 => 3 | n => n, fun | n => n⟩
theorem Tryz.lays106 : Go.Proofs.Lays.n106 Tryz.prog Tryz.lays106_ren := {
  mixed := by kernel_rfl
  f106 := Tryz.func74.trans (congrArg some (by kernel_rfl))
  f213 := Tryz.func86.trans (congrArg some (by kernel_rfl))
  f265 := Tryz.func109.trans (congrArg some (by kernel_rfl))
  t3 := Tryz.underlying3
  a3 := Tryz.isAgg3
  z3 := Tryz.sizeOf3
  v3 := Tryz.zeroValue3
  t9 := Tryz.underlying9
  a9 := Tryz.isAgg9
  z9 := Tryz.sizeOf9
  v9 := Tryz.zeroValue9 }
open Go.RowKit in
/-- strings.Compare: "Compare returns an integer comparing two strings lexicographically. The result will be 0 if a == b, -1 if a < b, and +1 if a > b.": IT RETURNS 'Lib.compareBytes a b'; the world is as_ it was. (LAID: no walk: one application.) -/
theorem Tryz.strings_Compare (a b : ByteArray) (w : World) :
    Calls Tryz.prog 74 #[.string a, .string b] w fun e w' => e = .returned (.int .i64 (Lib.compareBytes a.data.toList b.data.toList)) ∧ w' = w := Any.strings_Compare Tryz.lays106 a b w
end Go.Proofs
end
section
namespace Go.Proofs.YtldlenjfpjihdaaGreatW.PrintWords
open Go Go.RowKit Go.Proofs
def strings_Compare.f (s t : ByteArray) : Option Int := some (Lib.compareBytes s.data.toList t.data.toList)
theorem strings_Compare.calls (a0 a1 : ByteArray) (r : Int) (w : World) (h : strings_Compare.f a0 a1 = some r) :
    Calls Tryz.prog 74 #[.string a0, .string a1] w fun e w' => e = .returned (.int .i64 r) ∧ Drawn0 w w' := by
  obtain rfl := Option.some.inj h
  exact (Tryz.strings_Compare a0 a1 w).mono fun e w' h => ⟨h.1, by rw [h.2]; exact Drawn0.refl _⟩
end Go.Proofs.YtldlenjfpjihdaaGreatW.PrintWords
end
section
namespace Go.Proofs.YtldlenjfpjihdaaGreat.PS
open Go.RowKit Go.Proofs.YtldlenjfpjihdaaGreatW.PrintWords Go.Proofs.YtldlenjfpjihdaaGreatW.PrintLast Go.Proofs.YtldlenjfpjihdaaGreatW.PrintMore
attribute [local go_sem] max2_int min2_int max_two min_two max_three min_three max_four min_four
set_option linter.unusedVariables false
set_option linter.unusedSimpArgs false
attribute [local go_sem high] eqA37
def cmp_Or_int.l0 : Nat → Int → List Int → Int → Int → Option (Int)
  | 0, _, _, _, _ => none
  | k + 1, x3, x6, x7, x8 => if x8 < x7 then (if 0 ≤ x8 then (if x8 < (x6.length : Int) then (if (rd x6 x8) = x3 then (cmp_Or_int.l0 k x3 x6 x7 (wrap64 (x8 + 1))) else (some (rd x6 x8))) else (none)) else (none)) else (some x3)
def cmp_Or_int.f (k : Nat) (l0 : List Int) : Option (Int) := cmp_Or_int.l0 k 0 l0 (l0.length : Int) 0
set_option maxHeartbeats 8000000 in
set_option maxRecDepth 100000 in
theorem cmp_Or_int.calls (k : Nat) (A0 : Option Addr) (c0 : Nat) (l0 : List Int) (r : Int) (w : World) (hr0 : Kd.C (Kd.int .i64) w A0 l0.length l0) (hc0 : l0.length ≤ c0) (h : cmp_Or_int.f k l0 = some r) :
    Calls Tryz.prog 49 #[.slice A0 l0.length c0] w fun e w' => e = .returned (.int .i64 r) ∧ Drawn0 w w' := by
  have HR0 := Aside0.mk hr0
  have HC0 := Aside0.mk hc0
  clear hr0 hc0
  have H : (cmp_Or_int.l0 k 0 l0 (l0.length : Int) 0) = some r := h
  clear h
  have H' := Aside0.mk H
  clear H
  go_enter Tryz.func49, Tryz.ntmps49
  go_wp2
  go_loopg [8] k (fun kq v8 w' => ∃ (x8_1 : Int), v8 = .int .i64 x8_1 ∧ Aside0 (cmp_Or_int.l0 kq 0 l0 (l0.length : Int) x8_1 = some r) ∧ Aside0 (kq ≤ k) ∧ Drawn0 w w')
  case atStart => exact ⟨(0), (by first | rfl | (simp; done) | (simp [*]; done) | (simp [bool_ne_nil]; done) | (simp; exact bool_ne_nil _)), H', ⟨Nat.le_refl _⟩, by repeat (first | exact Drawn0.refl _ | apply Drawn0.step)⟩
  case round =>
    clear H'
    obtain ⟨x8_1, rfl, HA, HK1, ⟨m1, rfl⟩⟩ := hrel
    cases gk with
    | zero => exact absurd HA.out (by simp [cmp_Or_int.l0])
    | succ k1 =>
      have H := HA.out
      clear HA
      simp only [cmp_Or_int.l0] at H
      by_cases c2 : x8_1 < (l0.length : Int)
      · rw [if_pos c2] at H
        have c2b0 : decide (x8_1 < (l0.length : Int)) = true := decide_eq_true c2
        clear c2
        by_cases c3 : 0 ≤ x8_1
        · rw [if_pos c3] at H
          have c3b0 : decide (0 ≤ x8_1) = true := decide_eq_true c3
          clear c3
          by_cases c4 : x8_1 < (l0.length : Int)
          · rw [if_pos c4] at H
            have c4b0 : decide (x8_1 < (l0.length : Int)) = true := decide_eq_true c4
            clear c4
            by_cases c5 : (rd l0 x8_1) = 0
            · rw [if_pos c5] at H
              have c5b0 : ((rd l0 x8_1) == 0) = true := beq_iff_eq.mpr c5
              have c5b1 : ((rd l0 x8_1) != 0) = false := bne_eq_false_iff_eq.mpr c5
              clear c5
              have H' := Aside0.mk H
              clear H
              have p169 : 0 ≤ (x8_1 : Int) := of_decide_eq_true (by first | (with_reducible assumption) | assumption)
              have q169 : x8_1 < (l0.length : Int) := of_decide_eq_true (by first | (with_reducible assumption) | assumption)
              obtain ⟨ad169, e169, hx169_0⟩ := Kd.at_int HR0.out x8_1 p169 q169
              cases e169
              replace p169 := eq_true p169
              replace q169 := eq_true q169
              go_wp2
              go_roundg k1
              case measure => have := HK1.out; omega
              case rel => exact ⟨(wrap64 (x8_1 + 1)), (by first | rfl | (simp; done) | (simp [*]; done) | (simp [bool_ne_nil]; done) | (simp; exact bool_ne_nil _)), H', ⟨by have := HK1.out; omega⟩, by repeat (first | exact Drawn0.refl _ | apply Drawn0.step)⟩
            · rw [if_neg c5] at H
              have c5b0 : ((rd l0 x8_1) == 0) = false := beq_eq_false_iff_ne.mpr c5
              have c5b1 : ((rd l0 x8_1) != 0) = true := bne_iff_ne.mpr c5
              obtain rfl := Option.some.inj H
              have p169 : 0 ≤ (x8_1 : Int) := of_decide_eq_true (by first | (with_reducible assumption) | assumption)
              have q169 : x8_1 < (l0.length : Int) := of_decide_eq_true (by first | (with_reducible assumption) | assumption)
              obtain ⟨ad169, e169, hx169_0⟩ := Kd.at_int HR0.out x8_1 p169 q169
              cases e169
              replace p169 := eq_true p169
              replace q169 := eq_true q169
              go_wp2
              go_ret
              exact ⟨by first | rfl | (simp; done) | (simp [*]; done) | (simp [bool_ne_nil]; done) | (simp; exact bool_ne_nil _), by repeat (first | exact Drawn0.refl _ | apply Drawn0.step)⟩
          · rw [if_neg c4] at H
            exact absurd H (by simp)
        · rw [if_neg c3] at H
          exact absurd H (by simp)
      · rw [if_neg c2] at H
        have c2b0 : decide (x8_1 < (l0.length : Int)) = false := decide_eq_false c2
        clear c2
        obtain rfl := Option.some.inj H
        go_wp2
        go_ret
        exact ⟨by first | rfl | (simp; done) | (simp [*]; done) | (simp [bool_ne_nil]; done) | (simp; exact bool_ne_nil _), by repeat (first | exact Drawn0.refl _ | apply Drawn0.step)⟩
def cmp_isNaN_int.f (a0 : Int) : Option (Bool) := some (a0 != a0)
set_option maxHeartbeats 8000000 in
set_option maxRecDepth 100000 in
theorem cmp_isNaN_int.calls (a0 : Int) (r : Bool) (w : World) (h : cmp_isNaN_int.f a0 = some r) :
    Calls Tryz.prog 68 #[.int .i64 a0] w fun e w' => e = .returned (.bool r) ∧ Drawn0 w w' := by
  have H : (some (a0 != a0)) = some r := h
  clear h
  obtain rfl := Option.some.inj H
  go_enter Tryz.func68, Tryz.ntmps68
  go_wp2
  go_ret
  exact ⟨by first | rfl | (simp; done) | (simp [*]; done) | (simp [bool_ne_nil]; done) | (simp; exact bool_ne_nil _), by repeat (first | exact Drawn0.refl _ | apply Drawn0.step)⟩
def cmp_Compare_int.f (a0 : Int) (a1 : Int) : Option (Int) := (cmp_isNaN_int.f a0).bind fun t170 => ((cmp_isNaN_int.f a1).bind fun t171 => (if t170 = true then (if t171 = true then (some 0) else (some (-1))) else (if t171 = true then (some 1) else (if a0 < a1 then (some (-1)) else (if a0 > a1 then (some 1) else (some 0))))))
set_option maxHeartbeats 8000000 in
set_option maxRecDepth 100000 in
theorem cmp_Compare_int.calls (a0 : Int) (a1 : Int) (r : Int) (w : World) (h : cmp_Compare_int.f a0 a1 = some r) :
    Calls Tryz.prog 50 #[.int .i64 a0, .int .i64 a1] w fun e w' => e = .returned (.int .i64 r) ∧ Drawn0 w w' := by
  have H : ((cmp_isNaN_int.f a0).bind fun t170 => ((cmp_isNaN_int.f a1).bind fun t171 => (if t170 = true then (if t171 = true then (some 0) else (some (-1))) else (if t171 = true then (some 1) else (if a0 < a1 then (some (-1)) else (if a0 > a1 then (some 1) else (some 0))))))) = some r := h
  clear h
  replace H := Option.bind_eq_some_iff.mp H
  obtain ⟨t170, A30, H⟩ := H
  replace H : ((cmp_isNaN_int.f a1).bind fun t171 => (if t170 = true then (if t171 = true then (some 0) else (some (-1))) else (if t171 = true then (some 1) else (if a0 < a1 then (some (-1)) else (if a0 > a1 then (some 1) else (some 0)))))) = some r := H
  have A3 := Aside0.mk A30
  clear A30
  replace H := Option.bind_eq_some_iff.mp H
  obtain ⟨t171, A40, H⟩ := H
  replace H : (if t170 = true then (if t171 = true then (some 0) else (some (-1))) else (if t171 = true then (some 1) else (if a0 < a1 then (some (-1)) else (if a0 > a1 then (some 1) else (some 0))))) = some r := H
  have A4 := Aside0.mk A40
  clear A40
  by_cases c5 : t170 = true
  · subst c5
    have H1 : (if t171 = true then (some 0) else (some (-1))) = some r := by rw [if_pos rfl] at H; exact H
    clear H
    have H := H1
    clear H1
    by_cases c6 : t171 = true
    · subst c6
      have H1 : (some 0) = some r := by rw [if_pos rfl] at H; exact H
      clear H
      have H := H1
      clear H1
      obtain rfl := Option.some.inj H
      go_enter Tryz.func50, Tryz.ntmps50
      go_wp2_with (first | ((with_reducible refine gate_callee (f := 68) rfl ?_); refine goesL_ (some 8) rfl rfl Tryz.func68 (by kernel_rfl) rfl #[.int .i64 a0] rfl (by (try simp only [List.map_toArray, List.map_cons, List.map_nil]); first | done | rfl | (simp only [List.length_drop, List.length_take]; rfl)) ?_; (with_reducible refine (cmp_isNaN_int.calls a0 true _ A3.out).mono ?_); rintro e w' ⟨rfl, ⟨nd, rfl⟩⟩; refine ⟨_, rfl, ?_⟩) | ((with_reducible refine gate_callee (f := 68) rfl ?_); refine goesL_ (some 10) rfl rfl Tryz.func68 (by kernel_rfl) rfl #[.int .i64 a1] rfl (by (try simp only [List.map_toArray, List.map_cons, List.map_nil]); first | done | rfl | (simp only [List.length_drop, List.length_take]; rfl)) ?_; (with_reducible refine (cmp_isNaN_int.calls a1 true _ A4.out).mono ?_); rintro e w' ⟨rfl, ⟨nd, rfl⟩⟩; refine ⟨_, rfl, ?_⟩))
      go_ret
      exact ⟨by first | rfl | (simp; done) | (simp [*]; done) | (simp [bool_ne_nil]; done) | (simp; exact bool_ne_nil _), by repeat (first | exact Drawn0.refl _ | apply Drawn0.step)⟩
    · replace c6 := Bool.eq_false_iff.mpr c6
      subst c6
      have H1 : (some (-1)) = some r := by rw [if_neg (show ¬ (false = true) by decide)] at H; exact H
      clear H
      have H := H1
      clear H1
      obtain rfl := Option.some.inj H
      go_enter Tryz.func50, Tryz.ntmps50
      go_wp2_with (first | ((with_reducible refine gate_callee (f := 68) rfl ?_); refine goesL_ (some 8) rfl rfl Tryz.func68 (by kernel_rfl) rfl #[.int .i64 a0] rfl (by (try simp only [List.map_toArray, List.map_cons, List.map_nil]); first | done | rfl | (simp only [List.length_drop, List.length_take]; rfl)) ?_; (with_reducible refine (cmp_isNaN_int.calls a0 true _ A3.out).mono ?_); rintro e w' ⟨rfl, ⟨nd, rfl⟩⟩; refine ⟨_, rfl, ?_⟩) | ((with_reducible refine gate_callee (f := 68) rfl ?_); refine goesL_ (some 10) rfl rfl Tryz.func68 (by kernel_rfl) rfl #[.int .i64 a1] rfl (by (try simp only [List.map_toArray, List.map_cons, List.map_nil]); first | done | rfl | (simp only [List.length_drop, List.length_take]; rfl)) ?_; (with_reducible refine (cmp_isNaN_int.calls a1 false _ A4.out).mono ?_); rintro e w' ⟨rfl, ⟨nd, rfl⟩⟩; refine ⟨_, rfl, ?_⟩))
      go_ret
      exact ⟨by first | rfl | (simp; done) | (simp [*]; done) | (simp [bool_ne_nil]; done) | (simp; exact bool_ne_nil _), by repeat (first | exact Drawn0.refl _ | apply Drawn0.step)⟩
  · replace c5 := Bool.eq_false_iff.mpr c5
    subst c5
    have H1 : (if t171 = true then (some 1) else (if a0 < a1 then (some (-1)) else (if a0 > a1 then (some 1) else (some 0)))) = some r := by rw [if_neg (show ¬ (false = true) by decide)] at H; exact H
    clear H
    have H := H1
    clear H1
    by_cases c7 : t171 = true
    · subst c7
      have H1 : (some 1) = some r := by rw [if_pos rfl] at H; exact H
      clear H
      have H := H1
      clear H1
      obtain rfl := Option.some.inj H
      go_enter Tryz.func50, Tryz.ntmps50
      go_wp2_with (first | ((with_reducible refine gate_callee (f := 68) rfl ?_); refine goesL_ (some 8) rfl rfl Tryz.func68 (by kernel_rfl) rfl #[.int .i64 a0] rfl (by (try simp only [List.map_toArray, List.map_cons, List.map_nil]); first | done | rfl | (simp only [List.length_drop, List.length_take]; rfl)) ?_; (with_reducible refine (cmp_isNaN_int.calls a0 false _ A3.out).mono ?_); rintro e w' ⟨rfl, ⟨nd, rfl⟩⟩; refine ⟨_, rfl, ?_⟩) | ((with_reducible refine gate_callee (f := 68) rfl ?_); refine goesL_ (some 10) rfl rfl Tryz.func68 (by kernel_rfl) rfl #[.int .i64 a1] rfl (by (try simp only [List.map_toArray, List.map_cons, List.map_nil]); first | done | rfl | (simp only [List.length_drop, List.length_take]; rfl)) ?_; (with_reducible refine (cmp_isNaN_int.calls a1 true _ A4.out).mono ?_); rintro e w' ⟨rfl, ⟨nd, rfl⟩⟩; refine ⟨_, rfl, ?_⟩))
      go_ret
      exact ⟨by first | rfl | (simp; done) | (simp [*]; done) | (simp [bool_ne_nil]; done) | (simp; exact bool_ne_nil _), by repeat (first | exact Drawn0.refl _ | apply Drawn0.step)⟩
    · replace c7 := Bool.eq_false_iff.mpr c7
      subst c7
      have H1 : (if a0 < a1 then (some (-1)) else (if a0 > a1 then (some 1) else (some 0))) = some r := by rw [if_neg (show ¬ (false = true) by decide)] at H; exact H
      clear H
      have H := H1
      clear H1
      by_cases c8 : a0 < a1
      · rw [if_pos c8] at H
        have c8b0 : decide (a0 < a1) = true := decide_eq_true c8
        clear c8
        obtain rfl := Option.some.inj H
        go_enter Tryz.func50, Tryz.ntmps50
        go_wp2_with (first | ((with_reducible refine gate_callee (f := 68) rfl ?_); refine goesL_ (some 8) rfl rfl Tryz.func68 (by kernel_rfl) rfl #[.int .i64 a0] rfl (by (try simp only [List.map_toArray, List.map_cons, List.map_nil]); first | done | rfl | (simp only [List.length_drop, List.length_take]; rfl)) ?_; (with_reducible refine (cmp_isNaN_int.calls a0 false _ A3.out).mono ?_); rintro e w' ⟨rfl, ⟨nd, rfl⟩⟩; refine ⟨_, rfl, ?_⟩) | ((with_reducible refine gate_callee (f := 68) rfl ?_); refine goesL_ (some 10) rfl rfl Tryz.func68 (by kernel_rfl) rfl #[.int .i64 a1] rfl (by (try simp only [List.map_toArray, List.map_cons, List.map_nil]); first | done | rfl | (simp only [List.length_drop, List.length_take]; rfl)) ?_; (with_reducible refine (cmp_isNaN_int.calls a1 false _ A4.out).mono ?_); rintro e w' ⟨rfl, ⟨nd, rfl⟩⟩; refine ⟨_, rfl, ?_⟩))
        go_ret
        exact ⟨by first | rfl | (simp; done) | (simp [*]; done) | (simp [bool_ne_nil]; done) | (simp; exact bool_ne_nil _), by repeat (first | exact Drawn0.refl _ | apply Drawn0.step)⟩
      · rw [if_neg c8] at H
        have c8b0 : decide (a0 < a1) = false := decide_eq_false c8
        clear c8
        by_cases c9 : a0 > a1
        · rw [if_pos c9] at H
          have c9b0 : decide (a1 < a0) = true := decide_eq_true c9
          clear c9
          obtain rfl := Option.some.inj H
          go_enter Tryz.func50, Tryz.ntmps50
          go_wp2_with (first | ((with_reducible refine gate_callee (f := 68) rfl ?_); refine goesL_ (some 8) rfl rfl Tryz.func68 (by kernel_rfl) rfl #[.int .i64 a0] rfl (by (try simp only [List.map_toArray, List.map_cons, List.map_nil]); first | done | rfl | (simp only [List.length_drop, List.length_take]; rfl)) ?_; (with_reducible refine (cmp_isNaN_int.calls a0 false _ A3.out).mono ?_); rintro e w' ⟨rfl, ⟨nd, rfl⟩⟩; refine ⟨_, rfl, ?_⟩) | ((with_reducible refine gate_callee (f := 68) rfl ?_); refine goesL_ (some 10) rfl rfl Tryz.func68 (by kernel_rfl) rfl #[.int .i64 a1] rfl (by (try simp only [List.map_toArray, List.map_cons, List.map_nil]); first | done | rfl | (simp only [List.length_drop, List.length_take]; rfl)) ?_; (with_reducible refine (cmp_isNaN_int.calls a1 false _ A4.out).mono ?_); rintro e w' ⟨rfl, ⟨nd, rfl⟩⟩; refine ⟨_, rfl, ?_⟩))
          go_ret
          exact ⟨by first | rfl | (simp; done) | (simp [*]; done) | (simp [bool_ne_nil]; done) | (simp; exact bool_ne_nil _), by repeat (first | exact Drawn0.refl _ | apply Drawn0.step)⟩
        · rw [if_neg c9] at H
          have c9b0 : decide (a1 < a0) = false := decide_eq_false c9
          clear c9
          obtain rfl := Option.some.inj H
          go_enter Tryz.func50, Tryz.ntmps50
          go_wp2_with (first | ((with_reducible refine gate_callee (f := 68) rfl ?_); refine goesL_ (some 8) rfl rfl Tryz.func68 (by kernel_rfl) rfl #[.int .i64 a0] rfl (by (try simp only [List.map_toArray, List.map_cons, List.map_nil]); first | done | rfl | (simp only [List.length_drop, List.length_take]; rfl)) ?_; (with_reducible refine (cmp_isNaN_int.calls a0 false _ A3.out).mono ?_); rintro e w' ⟨rfl, ⟨nd, rfl⟩⟩; refine ⟨_, rfl, ?_⟩) | ((with_reducible refine gate_callee (f := 68) rfl ?_); refine goesL_ (some 10) rfl rfl Tryz.func68 (by kernel_rfl) rfl #[.int .i64 a1] rfl (by (try simp only [List.map_toArray, List.map_cons, List.map_nil]); first | done | rfl | (simp only [List.length_drop, List.length_take]; rfl)) ?_; (with_reducible refine (cmp_isNaN_int.calls a1 false _ A4.out).mono ?_); rintro e w' ⟨rfl, ⟨nd, rfl⟩⟩; refine ⟨_, rfl, ?_⟩))
          go_ret
          exact ⟨by first | rfl | (simp; done) | (simp [*]; done) | (simp [bool_ne_nil]; done) | (simp; exact bool_ne_nil _), by repeat (first | exact Drawn0.refl _ | apply Drawn0.step)⟩
def sets_before.f (k : Nat) (a0_0 : Int) (a0_1 : Int) (a0_2 : ByteArray) (a1_0 : Int) (a1_1 : Int) (a1_2 : ByteArray) : Option (Int) := (cmp_Compare_int.f a0_0 a1_0).bind fun t174 => ((cmp_Compare_int.f a0_1 a1_1).bind fun t175 => ((strings_Compare.f a0_2 a1_2).bind fun t176 => ((cmp_Or_int.f k (([t174, t175, t176] : List Int))).bind fun t180 => (some t180))))
def sets_before.T1 : Bool × List (List Nat × List Nat) := (true, [([], []), ([0], [0]), ([], []), ([2], [2]), ([1, 3], [1, 3]), ([], []), ([5], [5]), ([], []), ([7], [7]), ([6, 8, 4], [6, 8]), ([], []), ([10], [10]), ([], []), ([12], [12]), ([11, 13, 9], [11, 13]), ([4, 9, 14], [4, 9, 14]), ([15, 14], [15]), ([16, 16, 0, 1, 2, 3, 4, 5, 6, 7, 8, 9, 10, 11, 12, 13, 14, 15, 16], [16])])
def sets_before.B1 : List Nat := [0, 1, 0, 4, 15, 0, 32, 0, 128, 511, 0, 1024, 0, 4096, 16383, 32767, 65535, 131071]
theorem sets_before.tab1 : rtab .any (opsOf Tryz.f64 1) = sets_before.T1 := by kernel_rfl
theorem sets_before.bits1 : waitsOk sets_before.T1.2 sets_before.B1 = true := by kernel_rfl
set_option maxHeartbeats 8000000 in
set_option maxRecDepth 100000 in
theorem sets_before.calls (k : Nat) (a0_0 : Int) (a0_1 : Int) (a0_2 : ByteArray) (a1_0 : Int) (a1_1 : Int) (a1_2 : ByteArray) (r : Int) (w : World) (h : sets_before.f k a0_0 a0_1 a0_2 a1_0 a1_1 a1_2 = some r) :
    Calls Tryz.prog 64 #[.agg #[.int .i64 a0_0, .int .i64 a0_1, .string a0_2], .agg #[.int .i64 a1_0, .int .i64 a1_1, .string a1_2]] w fun e w' => e = .returned (.int .i64 r) ∧ Below w.heap.size w w' := by
  have hu37 := Tryz.underlying37
  have HB := Aside0.mk (Below.refl w.heap.size w)
  have H : ((cmp_Compare_int.f a0_0 a1_0).bind fun t174 => ((cmp_Compare_int.f a0_1 a1_1).bind fun t175 => ((strings_Compare.f a0_2 a1_2).bind fun t176 => ((cmp_Or_int.f k (([t174, t175, t176] : List Int))).bind fun t180 => (some t180))))) = some r := h
  clear h
  replace H := Option.bind_eq_some_iff.mp H
  obtain ⟨t174, A30, H⟩ := H
  replace H : ((cmp_Compare_int.f a0_1 a1_1).bind fun t175 => ((strings_Compare.f a0_2 a1_2).bind fun t176 => ((cmp_Or_int.f k (([t174, t175, t176] : List Int))).bind fun t180 => (some t180)))) = some r := H
  have A3 := Aside0.mk A30
  clear A30
  replace H := Option.bind_eq_some_iff.mp H
  obtain ⟨t175, A40, H⟩ := H
  replace H : ((strings_Compare.f a0_2 a1_2).bind fun t176 => ((cmp_Or_int.f k (([t174, t175, t176] : List Int))).bind fun t180 => (some t180))) = some r := H
  have A4 := Aside0.mk A40
  clear A40
  replace H := Option.bind_eq_some_iff.mp H
  obtain ⟨t176, A50, H⟩ := H
  replace H : ((cmp_Or_int.f k (([t174, t175, t176] : List Int))).bind fun t180 => (some t180)) = some r := H
  have A5 := Aside0.mk A50
  clear A50
  obtain ⟨y177, hy177⟩ : ∃ y_ : List Int, y_ = (([t174, t175, t176] : List Int)) := ⟨_, rfl⟩
  replace H : ((cmp_Or_int.f k y177).bind fun t180 => (some t180)) = some r := by first | (rw [hy177]; with_reducible exact H) | (have H2_ := (Option.bind_some _ _).symm.trans H; rw [hy177]; with_reducible exact H2_) | (have H2_ := (Option.bind_some _ _).symm.trans H; with_reducible exact H2_) | with_reducible exact H | (rw [hy177]; exact H) | exact H
  have Ny177 := Aside0.mk hy177
  clear hy177
  replace H := Option.bind_eq_some_iff.mp H
  obtain ⟨t180, A60, H⟩ := H
  replace H : (some t180) = some r := H
  have A6 := Aside0.mk A60
  clear A60
  obtain rfl := Option.some.inj H
  go_enter Tryz.func64, Tryz.ntmps64
  try go_wp2_with (first | ((with_reducible refine gate_dst (N := 2) rfl ?_); refine box_event ?hg (N := 2) ?hd (cs := #[.int .i64 a0_0, .int .i64 a0_1, .string a0_2]) (t := 37) ?hr ?_; (case hd => rfl); (case hg => rfl); (case hr => first | (go_simp; done) | (go_simp; rfl)); intro gb172 hg w7 hbox hb; have n0_ := Aside0.mk (below_step (by repeat (first | (with_reducible first | exact HB.out | apply below_alloc | apply pw_below_drewN | apply below_drew1) | exact HB.out)) hb); have n1_ := Aside0.mk (hbox); have n2_ := Aside0.mk ((by rw [hg]; exact (below_size (by repeat (first | (with_reducible first | exact HB.out | apply below_alloc | apply pw_below_drewN | apply below_drew1) | exact HB.out))) : w.heap.size ≤ gb172)); have n3_ := Aside0.mk ((by rw [hg]; exact (below_size (by repeat (first | (with_reducible first | exact HB.out | apply below_alloc | apply pw_below_drewN | apply below_drew1) | exact HB.out))) : w.heap.size ≤ gb172)); clear HB; have HB := n0_; have BK172 := n1_; have GW172 := n2_; have GE172 := n3_; clear n0_ n1_ n2_ n3_; clear hb hbox hg) | ((with_reducible refine gate_dst (N := 3) rfl ?_); refine box_event ?hg (N := 3) ?hd (cs := #[.int .i64 a1_0, .int .i64 a1_1, .string a1_2]) (t := 37) ?hr ?_; (case hd => rfl); (case hg => rfl); (case hr => first | (go_simp; done) | (go_simp; rfl)); intro gb173 hg w8 hbox hb; have n0_ := Aside0.mk (blk_below (g := gb172) (o := .cells #[.int .i64 a0_0, .int .i64 a0_1, .string a0_2] 37 (0, 0)) (by (with_reducible repeat (first | refine blk_drewN ?_ _ | refine blk_drew ?_ | refine blk_alloc ?_ _)); exact BK172.out) hb); have n1_ := Aside0.mk (below_step (by repeat (first | (with_reducible first | exact HB.out | apply below_alloc | apply pw_below_drewN | apply below_drew1 | refine below_set ?_ GE172.out) | exact HB.out)) hb); have n2_ := Aside0.mk (hbox); have n3_ := Aside0.mk ((by rw [hg]; exact (below_size (by repeat (first | (with_reducible first | exact HB.out | apply below_alloc | apply pw_below_drewN | apply below_drew1 | refine below_set ?_ GE172.out) | exact HB.out))) : w.heap.size ≤ gb173)); have n4_ := Aside0.mk ((by rw [hg]; exact (below_size (by repeat (first | (with_reducible first | exact HB.out | apply below_alloc | apply pw_below_drewN | apply below_drew1 | refine below_set ?_ GE172.out) | exact HB.out))) : w.heap.size ≤ gb173)); have n5_ := Aside0.mk ((by rw [hg]; exact Nat.ne_of_lt (blk_lt (g := gb172) (o := .cells #[.int .i64 a0_0, .int .i64 a0_1, .string a0_2] 37 (0, 0)) (by (with_reducible repeat (first | refine blk_drewN ?_ _ | refine blk_drew ?_ | refine blk_alloc ?_ _)); exact BK172.out)) : gb172 ≠ gb173)); have n6_ := Aside0.mk ((by rw [hg]; exact Nat.ne_of_gt (blk_lt (g := gb172) (o := .cells #[.int .i64 a0_0, .int .i64 a0_1, .string a0_2] 37 (0, 0)) (by (with_reducible repeat (first | refine blk_drewN ?_ _ | refine blk_drew ?_ | refine blk_alloc ?_ _)); exact BK172.out)) : gb173 ≠ gb172)); clear BK172; clear HB; have BK172 := n0_; have HB := n1_; have BK173 := n2_; have GW173 := n3_; have GE173 := n4_; have NB172_173 := n5_; have NB173_172 := n6_; clear n0_ n1_ n2_ n3_ n4_ n5_ n6_; clear hb hbox hg))
  have n0_ := Aside0.mk (blk_drew BK172.out)
  have n1_ := Aside0.mk (blk_drew BK173.out)
  have n2_ := Aside0.mk (below_drew1 HB.out)
  clear BK172
  clear BK173
  clear HB
  have BK172 := n0_
  have BK173 := n1_
  have HB := n2_
  clear n0_ n1_ n2_
  refine start_ (n := 18) (S := fun w' => w'.cell? ⟨gb172, 0, none⟩ = some (.int .i64 a0_0) ∧ w'.cell? ⟨gb172, 1, none⟩ = some (.int .i64 a0_1) ∧ w'.cell? ⟨gb172, 2, none⟩ = some (.string a0_2) ∧ w'.cell? ⟨gb173, 0, none⟩ = some (.int .i64 a1_0) ∧ w'.cell? ⟨gb173, 1, none⟩ = some (.int .i64 a1_1) ∧ w'.cell? ⟨gb173, 2, none⟩ = some (.string a1_2)) (ds := []) #[false, false, false, false, false, false, false, false, false, false, false, false, false, false, false, false, false, false] (by kernel_rfl) rfl rfl ⟨(blk_cell BK172.out 0).trans rfl, (blk_cell BK172.out 1).trans rfl, (blk_cell BK172.out 2).trans rfl, (blk_cell BK173.out 0).trans rfl, (blk_cell BK173.out 1).trans rfl, (blk_cell BK173.out 2).trans rfl⟩ (fun hHeld => ?_); refine with_tabW sets_before.tab1 sets_before.bits1 (fun HT_ HW_ => ?_)
  generalize w8.drew = w9 at BK172 BK173 HB hHeld ⊢
  refine pure_ (i := 0) (N := some 5) (v := ?_) (a' := ?_) #[true, false, false, false, false, false, false, false, false, false, false, false, false, false, false, false, false, false] rfl rfl (any_of HT_.out (by kernel_rfl)) (fun _ _ _ h => h) (Or.inl ⟨by rfl, ?_⟩) ?_ ?_
  rotate_left
  · intro w'
    go_simp
    with_reducible rfl
  rotate_left
  · simp only [Act.put, List.setIfInBounds_toArray, List.set_cons_zero, List.set_cons_succ, i64_w, i32_w]
    rfl
  refine pure_ (i := 2) (N := some 7) (v := ?_) (a' := ?_) #[true, false, true, false, false, false, false, false, false, false, false, false, false, false, false, false, false, false] rfl rfl (any_of HT_.out (by kernel_rfl)) (fun _ _ _ h => h) (Or.inl ⟨by rfl, ?_⟩) ?_ ?_
  rotate_left
  · intro w'
    go_simp
    with_reducible rfl
  rotate_left
  · simp only [Act.put, List.setIfInBounds_toArray, List.set_cons_zero, List.set_cons_succ, i64_w, i32_w]
    rfl
  refine pure_ (i := 5) (N := some 10) (v := ?_) (a' := ?_) #[true, false, true, false, false, true, false, false, false, false, false, false, false, false, false, false, false, false] rfl rfl (any_of HT_.out (by kernel_rfl)) (fun _ _ _ h => h) (Or.inl ⟨by rfl, ?_⟩) ?_ ?_
  rotate_left
  · intro w'
    go_simp
    with_reducible rfl
  rotate_left
  · simp only [Act.put, List.setIfInBounds_toArray, List.set_cons_zero, List.set_cons_succ, i64_w, i32_w]
    rfl
  refine pure_ (i := 7) (N := some 12) (v := ?_) (a' := ?_) #[true, false, true, false, false, true, false, true, false, false, false, false, false, false, false, false, false, false] rfl rfl (any_of HT_.out (by kernel_rfl)) (fun _ _ _ h => h) (Or.inl ⟨by rfl, ?_⟩) ?_ ?_
  rotate_left
  · intro w'
    go_simp
    with_reducible rfl
  rotate_left
  · simp only [Act.put, List.setIfInBounds_toArray, List.set_cons_zero, List.set_cons_succ, i64_w, i32_w]
    rfl
  refine pure_ (i := 10) (N := some 15) (v := ?_) (a' := ?_) #[true, false, true, false, false, true, false, true, false, false, true, false, false, false, false, false, false, false] rfl rfl (any_of HT_.out (by kernel_rfl)) (fun _ _ _ h => h) (Or.inl ⟨by rfl, ?_⟩) ?_ ?_
  rotate_left
  · intro w'
    go_simp
    with_reducible rfl
  rotate_left
  · simp only [Act.put, List.setIfInBounds_toArray, List.set_cons_zero, List.set_cons_succ, i64_w, i32_w]
    rfl
  refine pure_ (i := 12) (N := some 17) (v := ?_) (a' := ?_) #[true, false, true, false, false, true, false, true, false, false, true, false, true, false, false, false, false, false] rfl rfl (any_of HT_.out (by kernel_rfl)) (fun _ _ _ h => h) (Or.inl ⟨by rfl, ?_⟩) ?_ ?_
  rotate_left
  · intro w'
    go_simp
    with_reducible rfl
  rotate_left
  · simp only [Act.put, List.setIfInBounds_toArray, List.set_cons_zero, List.set_cons_succ, i64_w, i32_w]
    rfl
  refine take_ (i := 1) (N := some 6) (v := ?_) (a' := ?_) #[true, true, true, false, false, true, false, true, false, false, true, false, true, false, false, false, false, false] rfl rfl (take_ofW HT_.out HW_.out (by kernel_rfl)) (fun _ _ _ h => h) (Or.inl ⟨by rfl, ?_⟩) hHeld ?_ ?_
  rotate_left
  · rintro w' ⟨s0, s1, s2, s3, s4, s5⟩
    go_simp
    with_reducible rfl
  rotate_left
  · simp only [Act.put, List.setIfInBounds_toArray, List.set_cons_zero, List.set_cons_succ, i64_w, i32_w]
    rfl
  refine take_ (i := 3) (N := some 8) (v := ?_) (a' := ?_) #[true, true, true, true, false, true, false, true, false, false, true, false, true, false, false, false, false, false] rfl rfl (take_ofW HT_.out HW_.out (by kernel_rfl)) (fun _ _ _ h => h) (Or.inl ⟨by rfl, ?_⟩) hHeld ?_ ?_
  rotate_left
  · rintro w' ⟨s0, s1, s2, s3, s4, s5⟩
    go_simp
    with_reducible rfl
  rotate_left
  · simp only [Act.put, List.setIfInBounds_toArray, List.set_cons_zero, List.set_cons_succ, i64_w, i32_w]
    rfl
  refine take_ (i := 6) (N := some 11) (v := ?_) (a' := ?_) #[true, true, true, true, false, true, true, true, false, false, true, false, true, false, false, false, false, false] rfl rfl (take_ofW HT_.out HW_.out (by kernel_rfl)) (fun _ _ _ h => h) (Or.inl ⟨by rfl, ?_⟩) hHeld ?_ ?_
  rotate_left
  · rintro w' ⟨s0, s1, s2, s3, s4, s5⟩
    go_simp
    with_reducible rfl
  rotate_left
  · simp only [Act.put, List.setIfInBounds_toArray, List.set_cons_zero, List.set_cons_succ, i64_w, i32_w]
    rfl
  refine take_ (i := 8) (N := some 13) (v := ?_) (a' := ?_) #[true, true, true, true, false, true, true, true, true, false, true, false, true, false, false, false, false, false] rfl rfl (take_ofW HT_.out HW_.out (by kernel_rfl)) (fun _ _ _ h => h) (Or.inl ⟨by rfl, ?_⟩) hHeld ?_ ?_
  rotate_left
  · rintro w' ⟨s0, s1, s2, s3, s4, s5⟩
    go_simp
    with_reducible rfl
  rotate_left
  · simp only [Act.put, List.setIfInBounds_toArray, List.set_cons_zero, List.set_cons_succ, i64_w, i32_w]
    rfl
  refine take_ (i := 11) (N := some 16) (v := ?_) (a' := ?_) #[true, true, true, true, false, true, true, true, true, false, true, true, true, false, false, false, false, false] rfl rfl (take_ofW HT_.out HW_.out (by kernel_rfl)) (fun _ _ _ h => h) (Or.inl ⟨by rfl, ?_⟩) hHeld ?_ ?_
  rotate_left
  · rintro w' ⟨s0, s1, s2, s3, s4, s5⟩
    go_simp
    with_reducible rfl
  rotate_left
  · simp only [Act.put, List.setIfInBounds_toArray, List.set_cons_zero, List.set_cons_succ, i64_w, i32_w]
    rfl
  refine take_ (i := 13) (N := some 18) (v := ?_) (a' := ?_) #[true, true, true, true, false, true, true, true, true, false, true, true, true, true, false, false, false, false] rfl rfl (take_ofW HT_.out HW_.out (by kernel_rfl)) (fun _ _ _ h => h) (Or.inl ⟨by rfl, ?_⟩) hHeld ?_ ?_
  rotate_left
  · rintro w' ⟨s0, s1, s2, s3, s4, s5⟩
    go_simp
    with_reducible rfl
  rotate_left
  · simp only [Act.put, List.setIfInBounds_toArray, List.set_cons_zero, List.set_cons_succ, i64_w, i32_w]
    rfl
  refine one_ (i := 4) (N := some 9) #[true, true, true, true, true, true, true, true, true, false, true, true, true, true, false, false, false, false] rfl rfl (one_of HT_.out (by kernel_rfl)) (by decide) (fun K hK => ?_)
  refine goes_ Tryz.func50 (by kernel_rfl) rfl #[.int .i64 a0_0, .int .i64 a1_0] (by rfl) rfl rfl (by (try simp only [List.map_toArray, List.map_cons, List.map_nil]); first | done | rfl | (simp only [List.length_drop, List.length_take]; rfl)) ?_
  with_reducible refine (cmp_Compare_int.calls a0_0 a1_0 t174 _ A3.out).mono ?_
  rintro e w' ⟨rfl, ⟨nd, rfl⟩⟩
  refine ⟨_, rfl, ?_⟩
  refine hK.out _ _ ⟨(blk_cell BK172.out 0).trans rfl, (blk_cell BK172.out 1).trans rfl, (blk_cell BK172.out 2).trans rfl, (blk_cell BK173.out 0).trans rfl, (blk_cell BK173.out 1).trans rfl, (blk_cell BK173.out 2).trans rfl⟩ (fun hHeld => ?_)
  clear hK K
  refine norm_ (a' := ?_) ?_ ?_
  rotate_left
  · show Act.put _ (some 9) _ = _
    simp only [Act.put, List.setIfInBounds_toArray, List.set_cons_zero, List.set_cons_succ, i64_w, i32_w]
    rfl
  refine one_ (i := 9) (N := some 14) #[true, true, true, true, true, true, true, true, true, true, true, true, true, true, false, false, false, false] rfl rfl (one_of HT_.out (by kernel_rfl)) (by decide) (fun K hK => ?_)
  refine goes_ Tryz.func50 (by kernel_rfl) rfl #[.int .i64 a0_1, .int .i64 a1_1] (by rfl) rfl rfl (by (try simp only [List.map_toArray, List.map_cons, List.map_nil]); first | done | rfl | (simp only [List.length_drop, List.length_take]; rfl)) ?_
  with_reducible refine (cmp_Compare_int.calls a0_1 a1_1 t175 _ A4.out).mono ?_
  rintro e w' ⟨rfl, ⟨nd, rfl⟩⟩
  refine ⟨_, rfl, ?_⟩
  refine hK.out _ _ ⟨(blk_cell BK172.out 0).trans rfl, (blk_cell BK172.out 1).trans rfl, (blk_cell BK172.out 2).trans rfl, (blk_cell BK173.out 0).trans rfl, (blk_cell BK173.out 1).trans rfl, (blk_cell BK173.out 2).trans rfl⟩ (fun hHeld => ?_)
  clear hK K
  refine norm_ (a' := ?_) ?_ ?_
  rotate_left
  · show Act.put _ (some 14) _ = _
    simp only [Act.put, List.setIfInBounds_toArray, List.set_cons_zero, List.set_cons_succ, i64_w, i32_w]
    rfl
  refine one_ (i := 14) (N := some 19) #[true, true, true, true, true, true, true, true, true, true, true, true, true, true, true, false, false, false] rfl rfl (one_of HT_.out (by kernel_rfl)) (by decide) (fun K hK => ?_)
  refine goes_ Tryz.func74 (by kernel_rfl) rfl #[.string a0_2, .string a1_2] (by rfl) rfl rfl (by (try simp only [List.map_toArray, List.map_cons, List.map_nil]); first | done | rfl | (simp only [List.length_drop, List.length_take]; rfl)) ?_
  with_reducible refine (strings_Compare.calls a0_2 a1_2 t176 _ A5.out).mono ?_
  rintro e w' ⟨rfl, ⟨nd, rfl⟩⟩
  refine ⟨_, rfl, ?_⟩
  refine hK.out _ _ ⟨(blk_cell BK172.out 0).trans rfl, (blk_cell BK172.out 1).trans rfl, (blk_cell BK172.out 2).trans rfl, (blk_cell BK173.out 0).trans rfl, (blk_cell BK173.out 1).trans rfl, (blk_cell BK173.out 2).trans rfl⟩ (fun hHeld => ?_)
  clear hK K
  refine norm_ (a' := ?_) ?_ ?_
  rotate_left
  · show Act.put _ (some 19) _ = _
    simp only [Act.put, List.setIfInBounds_toArray, List.set_cons_zero, List.set_cons_succ, i64_w, i32_w]
    rfl
  refine one_ (i := 15) (N := some 20) #[true, true, true, true, true, true, true, true, true, true, true, true, true, true, true, true, false, false] rfl rfl (one_of HT_.out (by kernel_rfl)) (by decide) (fun K hK => ?_)
  refine Kd.R_lit_step (Kd.int .i64) _ 3 ?hg (N := 20) ?hd (xs := ([t174, t175, t176] : List Int)) (inner := [.int .i64 t174, .int .i64 t175, .int .i64 t176]) (ok := fun _ => True) (okp := fun _ => True) ?hr ?hp (fun _ hk => hk) trivial (Below.refl _ _) (Nat.le_refl _) (by simp) ?_; (case hd => rfl); (case hg => rfl); (case hr => first | (go_simp; done) | (go_simp; rfl)); (case hp => exact (Reps.one (show Kd.M (Kd.int .i64) _ _ _ t174 [.int .i64 t174] from rfl) (Reps.one (show Kd.M (Kd.int .i64) _ _ _ t175 [.int .i64 t175] from rfl) (Reps.one (show Kd.M (Kd.int .i64) _ _ _ t176 [.int .i64 t176] from rfl) (Reps.none _ _)))))
  intro v178 w10 ho11 hb hg_ hnew_
  clear hg_ hnew_
  (first | rw [← Ny177.out] at ho11 | (simp only [Int.reduceToNat] at ho11; rw [← Ny177.out] at ho11))
  have n0_ := Aside0.mk (Kd.R_lower ho11 (below_size (by repeat (first | (with_reducible first | exact HB.out | apply below_alloc | apply pw_below_drewN | apply below_drew1 | refine below_set ?_ GE172.out | refine below_set ?_ GE173.out) | exact HB.out))))
  have n1_ := Aside0.mk (blk_below (g := gb172) (o := .cells #[.int .i64 a0_0, .int .i64 a0_1, .string a0_2] 37 (0, 0)) (by (with_reducible repeat (first | refine blk_drewN ?_ _ | refine blk_drew ?_ | refine blk_alloc ?_ _)); exact BK172.out) hb)
  have n2_ := Aside0.mk (blk_below (g := gb173) (o := .cells #[.int .i64 a1_0, .int .i64 a1_1, .string a1_2] 37 (0, 0)) (by (with_reducible repeat (first | refine blk_drewN ?_ _ | refine blk_drew ?_ | refine blk_alloc ?_ _)); exact BK173.out) hb)
  have n3_ := Aside0.mk (below_step (by repeat (first | (with_reducible first | exact HB.out | apply below_alloc | apply pw_below_drewN | apply below_drew1 | refine below_set ?_ GE172.out | refine below_set ?_ GE173.out) | exact HB.out)) hb)
  clear BK172
  clear BK173
  clear HB
  have HO179 := n0_
  have BK172 := n1_
  have BK173 := n2_
  have HB := n3_
  clear n0_ n1_ n2_ n3_
  clear hb ho11
  obtain ⟨Ao12, co12, eo12⟩ := Kd.R_slice HO179.out
  (first | subst eo12 | (injection eo12 with f1_ f2_ f3_; have f4_ := f1_.symm; have f5_ := f3_.symm; clear f1_ f2_ f3_; subst f4_; subst f5_))
  refine hK.out _ _ ⟨(blk_cell BK172.out 0).trans rfl, (blk_cell BK172.out 1).trans rfl, (blk_cell BK172.out 2).trans rfl, (blk_cell BK173.out 0).trans rfl, (blk_cell BK173.out 1).trans rfl, (blk_cell BK173.out 2).trans rfl⟩ (fun hHeld => ?_)
  clear hK K
  refine norm_ (a' := ?_) ?_ ?_
  rotate_left
  · show Act.put _ (some 20) _ = _
    simp only [Act.put, List.setIfInBounds_toArray, List.set_cons_zero, List.set_cons_succ, i64_w, i32_w]
    rfl
  refine one_ (i := 16) (N := some 21) #[true, true, true, true, true, true, true, true, true, true, true, true, true, true, true, true, true, false] rfl rfl (one_of HT_.out (by kernel_rfl)) (by decide) (fun K hK => ?_)
  refine goes_ Tryz.func49 (by kernel_rfl) rfl #[.slice Ao12 y177.length co12] (by rfl) rfl rfl (by (try simp only [List.map_toArray, List.map_cons, List.map_nil]); first | done | rfl | (simp only [List.length_drop, List.length_take]; rfl)) ?_
  with_reducible refine (cmp_Or_int.calls k _ _ y177 t180 _ ?side1 ?side2 A6.out).mono ?_
  (case side1 => repeat (first | exact (Kd.R_reads' HO179.out).2.2 | (with_reducible refine Kd.C_alloc ?_ _) | (with_reducible refine Kd.C_drewN ?_ _) | (with_reducible refine Kd.C_drew ?_)))
  (case side2 => exact (Kd.R_reads' HO179.out).2.1)
  rintro e w' ⟨rfl, ⟨nd, rfl⟩⟩
  refine ⟨_, rfl, ?_⟩
  refine hK.out _ _ ⟨(blk_cell BK172.out 0).trans rfl, (blk_cell BK172.out 1).trans rfl, (blk_cell BK172.out 2).trans rfl, (blk_cell BK173.out 0).trans rfl, (blk_cell BK173.out 1).trans rfl, (blk_cell BK173.out 2).trans rfl⟩ (fun hHeld => ?_)
  clear hK K
  refine norm_ (a' := ?_) ?_ ?_
  rotate_left
  · show Act.put _ (some 21) _ = _
    simp only [Act.put, List.setIfInBounds_toArray, List.set_cons_zero, List.set_cons_succ, i64_w, i32_w]
    rfl
  refine pure_ (i := 17) (N := some 4) (v := ?_) (a' := ?_) #[true, true, true, true, true, true, true, true, true, true, true, true, true, true, true, true, true, true] rfl rfl (any_of HT_.out (by kernel_rfl)) (fun _ _ _ h => h) (Or.inl ⟨by rfl, ?_⟩) ?_ ?_
  rotate_left
  · intro w'
    go_simp
    with_reducible rfl
  rotate_left
  · simp only [Act.put, List.setIfInBounds_toArray, List.set_cons_zero, List.set_cons_succ, i64_w, i32_w]
    rfl
  refine done_ (done_of HT_.out (by kernel_rfl)) ?_
  try go_wp2
  go_ret
  exact ⟨by first | rfl | (simp [errW_none, errW_some] <;> rfl) | (simp [*, errW_none, errW_some] <;> rfl), by repeat (first | (with_reducible first | exact HB.out | apply below_alloc | apply pw_below_drewN | apply below_drew1 | refine below_set ?_ GE172.out | refine below_set ?_ GE173.out) | exact HB.out)⟩
def sets_may.f (a0 : Int) (a1 : Int) : Option (Bool) := if a0 ≥ 0 then (some (decide (a1 ≥ (-1)))) else (some false)
set_option maxHeartbeats 8000000 in
set_option maxRecDepth 100000 in
theorem sets_may.calls (a0 : Int) (a1 : Int) (r : Bool) (w : World) (h : sets_may.f a0 a1 = some r) :
    Calls Tryz.prog 24 #[.int .i64 a0, .int .i64 a1] w fun e w' => e = .returned (.bool r) ∧ Drawn0 w w' := by
  have H : (if a0 ≥ 0 then (some (decide (a1 ≥ (-1)))) else (some false)) = some r := h
  clear h
  by_cases c3 : a0 ≥ 0
  · rw [if_pos c3] at H
    have c3b0 : decide (0 ≤ a0) = true := decide_eq_true c3
    clear c3
    obtain rfl := Option.some.inj H
    go_enter Tryz.func24, Tryz.ntmps24
    go_wp2
    go_ret
    exact ⟨by first | rfl | (simp; done) | (simp [*]; done) | (simp [bool_ne_nil]; done) | (simp; exact bool_ne_nil _), by repeat (first | exact Drawn0.refl _ | apply Drawn0.step)⟩
  · rw [if_neg c3] at H
    have c3b0 : decide (0 ≤ a0) = false := decide_eq_false c3
    clear c3
    obtain rfl := Option.some.inj H
    go_enter Tryz.func24, Tryz.ntmps24
    go_wp2
    go_ret
    exact ⟨by first | rfl | (simp; done) | (simp [*]; done) | (simp [bool_ne_nil]; done) | (simp; exact bool_ne_nil _), by repeat (first | exact Drawn0.refl _ | apply Drawn0.step)⟩
def sets_size.f (l0_0 : List (S37)) (l0_1 : List (S46)) (l0_2 : List (S37)) : Option (Int) := some (wrap64 ((wrap64 ((l0_0.length : Int) + (l0_1.length : Int))) + (l0_2.length : Int)))
set_option maxHeartbeats 8000000 in
set_option maxRecDepth 100000 in
theorem sets_size.calls (A0_0 : Option Addr) (c0_0 : Nat) (l0_0 : List (S37)) (A0_1 : Option Addr) (c0_1 : Nat) (l0_1 : List (S46)) (A0_2 : Option Addr) (c0_2 : Nat) (l0_2 : List (S37)) (r : Int) (w : World) (hr0_0 : Kd.C k37 w A0_0 l0_0.length l0_0) (hc0_0 : l0_0.length ≤ c0_0) (hr0_1 : Kd.C k46 w A0_1 l0_1.length l0_1) (hc0_1 : l0_1.length ≤ c0_1) (hr0_2 : Kd.C k37 w A0_2 l0_2.length l0_2) (hc0_2 : l0_2.length ≤ c0_2) (h : sets_size.f l0_0 l0_1 l0_2 = some r) :
    Calls Tryz.prog 25 #[.agg #[.slice A0_0 l0_0.length c0_0, .slice A0_1 l0_1.length c0_1, .slice A0_2 l0_2.length c0_2]] w fun e w' => e = .returned (.int .i64 r) ∧ Below w.heap.size w w' := by
  have hu25 := Tryz.underlying25
  have HR0_0 := Aside0.mk hr0_0
  have HC0_0 := Aside0.mk hc0_0
  clear hr0_0 hc0_0
  have HR0_1 := Aside0.mk hr0_1
  have HC0_1 := Aside0.mk hc0_1
  clear hr0_1 hc0_1
  have HR0_2 := Aside0.mk hr0_2
  have HC0_2 := Aside0.mk hc0_2
  clear hr0_2 hc0_2
  have HB := Aside0.mk (Below.refl w.heap.size w)
  have H : (some (wrap64 ((wrap64 ((l0_0.length : Int) + (l0_1.length : Int))) + (l0_2.length : Int)))) = some r := h
  clear h
  obtain rfl := Option.some.inj H
  go_enter Tryz.func25, Tryz.ntmps25
  go_wp2_with (first | ((with_reducible refine gate_dst (N := 1) rfl ?_); refine box_event ?hg (N := 1) ?hd (cs := #[.slice A0_0 l0_0.length c0_0, .slice A0_1 l0_1.length c0_1, .slice A0_2 l0_2.length c0_2]) (t := 25) ?hr ?_; (case hd => rfl); (case hg => rfl); (case hr => first | (go_simp; done) | (go_simp; rfl)); intro gb181 hg w2 hbox hb; have n0_ := Aside0.mk (below_step (by repeat (first | (with_reducible first | exact HB.out | apply below_alloc | apply pw_below_drewN | apply below_drew1) | exact HB.out)) hb); have n1_ := Aside0.mk (hbox); have n2_ := Aside0.mk ((by rw [hg]; exact (below_size (by repeat (first | (with_reducible first | exact HB.out | apply below_alloc | apply pw_below_drewN | apply below_drew1) | exact HB.out))) : w.heap.size ≤ gb181)); have n3_ := Aside0.mk ((by rw [hg]; exact (below_size (by repeat (first | (with_reducible first | exact HB.out | apply below_alloc | apply pw_below_drewN | apply below_drew1) | exact HB.out))) : w.heap.size ≤ gb181)); clear HB; have HB := n0_; have BK181 := n1_; have GW181 := n2_; have GE181 := n3_; clear n0_ n1_ n2_ n3_; clear hb hbox hg; have hcz3_0 : w2.cell? ⟨gb181, 0, none⟩ = some (.slice A0_0 l0_0.length c0_0) := (blk_cell BK181.out 0).trans rfl; have hcz3_1 : w2.cell? ⟨gb181, 1, none⟩ = some (.slice A0_1 l0_1.length c0_1) := (blk_cell BK181.out 1).trans rfl; have hcz3_2 : w2.cell? ⟨gb181, 2, none⟩ = some (.slice A0_2 l0_2.length c0_2) := (blk_cell BK181.out 2).trans rfl; have hfz3_0 := blk_frozen BK181.out 0; have hfz3_1 := blk_frozen BK181.out 1; have hfz3_2 := blk_frozen BK181.out 2))
  go_ret
  exact ⟨by first | rfl | (simp [errW_none, errW_some] <;> rfl) | (simp [*, errW_none, errW_some] <;> rfl), by repeat (first | (with_reducible first | exact HB.out | apply below_alloc | apply pw_below_drewN | apply below_drew1 | refine below_set ?_ GE181.out) | exact HB.out)⟩
def code_Has.f (a0_0 : ByteArray) (a0_1 : ByteArray) (a0_2 : Bool) (a1 : ByteArray) : Option (Bool) := if ((Op.bytesLess a1.toList a0_0.toList) = true) then (some false) else (if a0_2 = true then (some true) else (some (Op.bytesLess a1.toList a0_1.toList)))
set_option maxHeartbeats 8000000 in
set_option maxRecDepth 100000 in
theorem code_Has.calls (a0_0 : ByteArray) (a0_1 : ByteArray) (a0_2 : Bool) (a1 : ByteArray) (r : Bool) (w : World) (h : code_Has.f a0_0 a0_1 a0_2 a1 = some r) :
    Calls Tryz.prog 36 #[.agg #[.string a0_0, .string a0_1, .bool a0_2], .string a1] w fun e w' => e = .returned (.bool r) ∧ Below w.heap.size w w' := by
  have hu44 := Tryz.underlying44
  have HB := Aside0.mk (Below.refl w.heap.size w)
  have H : (if ((Op.bytesLess a1.toList a0_0.toList) = true) then (some false) else (if a0_2 = true then (some true) else (some (Op.bytesLess a1.toList a0_1.toList)))) = some r := h
  clear h
  by_cases c3 : ((Op.bytesLess a1.toList a0_0.toList) = true)
  · rw [if_pos c3] at H
    have c3b0 : (Op.bytesLess a1.toList a0_0.toList) = true := c3
    clear c3
    obtain rfl := Option.some.inj H
    go_enter Tryz.func36, Tryz.ntmps36
    go_wp2_with (first | ((with_reducible refine gate_dst (N := 2) rfl ?_); refine box_event ?hg (N := 2) ?hd (cs := #[.string a0_0, .string a0_1, .bool a0_2]) (t := 44) ?hr ?_; (case hd => rfl); (case hg => rfl); (case hr => first | (go_simp; done) | (go_simp; rfl)); intro gb182 hg w4 hbox hb; have n0_ := Aside0.mk (below_step (by repeat (first | (with_reducible first | exact HB.out | apply below_alloc | apply pw_below_drewN | apply below_drew1) | exact HB.out)) hb); have n1_ := Aside0.mk (hbox); have n2_ := Aside0.mk ((by rw [hg]; exact (below_size (by repeat (first | (with_reducible first | exact HB.out | apply below_alloc | apply pw_below_drewN | apply below_drew1) | exact HB.out))) : w.heap.size ≤ gb182)); have n3_ := Aside0.mk ((by rw [hg]; exact (below_size (by repeat (first | (with_reducible first | exact HB.out | apply below_alloc | apply pw_below_drewN | apply below_drew1) | exact HB.out))) : w.heap.size ≤ gb182)); clear HB; have HB := n0_; have BK182 := n1_; have GW182 := n2_; have GE182 := n3_; clear n0_ n1_ n2_ n3_; clear hb hbox hg; have hcz5_0 : w4.cell? ⟨gb182, 0, none⟩ = some (.string a0_0) := (blk_cell BK182.out 0).trans rfl; have hcz5_1 : w4.cell? ⟨gb182, 1, none⟩ = some (.string a0_1) := (blk_cell BK182.out 1).trans rfl; have hcz5_2 : w4.cell? ⟨gb182, 2, none⟩ = some (.bool a0_2) := (blk_cell BK182.out 2).trans rfl; have hfz5_0 := blk_frozen BK182.out 0; have hfz5_1 := blk_frozen BK182.out 1; have hfz5_2 := blk_frozen BK182.out 2))
    go_ret
    exact ⟨by first | rfl | (simp [errW_none, errW_some] <;> rfl) | (simp [*, errW_none, errW_some] <;> rfl), by repeat (first | (with_reducible first | exact HB.out | apply below_alloc | apply pw_below_drewN | apply below_drew1 | refine below_set ?_ GE182.out) | exact HB.out)⟩
  · rw [if_neg c3] at H
    have c3b0 : (Op.bytesLess a1.toList a0_0.toList) = false := by simpa using c3
    clear c3
    by_cases c6 : a0_2 = true
    · subst c6
      have H1 : (some true) = some r := by rw [if_pos rfl] at H; exact H
      clear H
      have H := H1
      clear H1
      obtain rfl := Option.some.inj H
      go_enter Tryz.func36, Tryz.ntmps36
      go_wp2_with (first | ((with_reducible refine gate_dst (N := 2) rfl ?_); refine box_event ?hg (N := 2) ?hd (cs := #[.string a0_0, .string a0_1, .bool true]) (t := 44) ?hr ?_; (case hd => rfl); (case hg => rfl); (case hr => first | (go_simp; done) | (go_simp; rfl)); intro gb182 hg w7 hbox hb; have n0_ := Aside0.mk (below_step (by repeat (first | (with_reducible first | exact HB.out | apply below_alloc | apply pw_below_drewN | apply below_drew1) | exact HB.out)) hb); have n1_ := Aside0.mk (hbox); have n2_ := Aside0.mk ((by rw [hg]; exact (below_size (by repeat (first | (with_reducible first | exact HB.out | apply below_alloc | apply pw_below_drewN | apply below_drew1) | exact HB.out))) : w.heap.size ≤ gb182)); have n3_ := Aside0.mk ((by rw [hg]; exact (below_size (by repeat (first | (with_reducible first | exact HB.out | apply below_alloc | apply pw_below_drewN | apply below_drew1) | exact HB.out))) : w.heap.size ≤ gb182)); clear HB; have HB := n0_; have BK182 := n1_; have GW182 := n2_; have GE182 := n3_; clear n0_ n1_ n2_ n3_; clear hb hbox hg; have hcz8_0 : w7.cell? ⟨gb182, 0, none⟩ = some (.string a0_0) := (blk_cell BK182.out 0).trans rfl; have hcz8_1 : w7.cell? ⟨gb182, 1, none⟩ = some (.string a0_1) := (blk_cell BK182.out 1).trans rfl; have hcz8_2 : w7.cell? ⟨gb182, 2, none⟩ = some (.bool true) := (blk_cell BK182.out 2).trans rfl; have hfz8_0 := blk_frozen BK182.out 0; have hfz8_1 := blk_frozen BK182.out 1; have hfz8_2 := blk_frozen BK182.out 2))
      go_ret
      exact ⟨by first | rfl | (simp [errW_none, errW_some] <;> rfl) | (simp [*, errW_none, errW_some] <;> rfl), by repeat (first | (with_reducible first | exact HB.out | apply below_alloc | apply pw_below_drewN | apply below_drew1 | refine below_set ?_ GE182.out) | exact HB.out)⟩
    · replace c6 := Bool.eq_false_iff.mpr c6
      subst c6
      have H1 : (some (Op.bytesLess a1.toList a0_1.toList)) = some r := by rw [if_neg (show ¬ (false = true) by decide)] at H; exact H
      clear H
      have H := H1
      clear H1
      obtain rfl := Option.some.inj H
      go_enter Tryz.func36, Tryz.ntmps36
      go_wp2_with (first | ((with_reducible refine gate_dst (N := 2) rfl ?_); refine box_event ?hg (N := 2) ?hd (cs := #[.string a0_0, .string a0_1, .bool false]) (t := 44) ?hr ?_; (case hd => rfl); (case hg => rfl); (case hr => first | (go_simp; done) | (go_simp; rfl)); intro gb182 hg w9 hbox hb; have n0_ := Aside0.mk (below_step (by repeat (first | (with_reducible first | exact HB.out | apply below_alloc | apply pw_below_drewN | apply below_drew1) | exact HB.out)) hb); have n1_ := Aside0.mk (hbox); have n2_ := Aside0.mk ((by rw [hg]; exact (below_size (by repeat (first | (with_reducible first | exact HB.out | apply below_alloc | apply pw_below_drewN | apply below_drew1) | exact HB.out))) : w.heap.size ≤ gb182)); have n3_ := Aside0.mk ((by rw [hg]; exact (below_size (by repeat (first | (with_reducible first | exact HB.out | apply below_alloc | apply pw_below_drewN | apply below_drew1) | exact HB.out))) : w.heap.size ≤ gb182)); clear HB; have HB := n0_; have BK182 := n1_; have GW182 := n2_; have GE182 := n3_; clear n0_ n1_ n2_ n3_; clear hb hbox hg; have hcz10_0 : w9.cell? ⟨gb182, 0, none⟩ = some (.string a0_0) := (blk_cell BK182.out 0).trans rfl; have hcz10_1 : w9.cell? ⟨gb182, 1, none⟩ = some (.string a0_1) := (blk_cell BK182.out 1).trans rfl; have hcz10_2 : w9.cell? ⟨gb182, 2, none⟩ = some (.bool false) := (blk_cell BK182.out 2).trans rfl; have hfz10_0 := blk_frozen BK182.out 0; have hfz10_1 := blk_frozen BK182.out 1; have hfz10_2 := blk_frozen BK182.out 2))
      go_ret
      exact ⟨by first | rfl | (simp [errW_none, errW_some] <;> rfl) | (simp [*, errW_none, errW_some] <;> rfl), by repeat (first | (with_reducible first | exact HB.out | apply below_alloc | apply pw_below_drewN | apply below_drew1 | refine below_set ?_ GE182.out) | exact HB.out)⟩
def code_Empty.f (a0_0 : ByteArray) (a0_1 : ByteArray) (a0_2 : Bool) : Option (Bool) := if a0_2 = true then (some false) else (some (!(Op.bytesLess a0_0.toList a0_1.toList)))
set_option maxHeartbeats 8000000 in
set_option maxRecDepth 100000 in
theorem code_Empty.calls (a0_0 : ByteArray) (a0_1 : ByteArray) (a0_2 : Bool) (r : Bool) (w : World) (h : code_Empty.f a0_0 a0_1 a0_2 = some r) :
    Calls Tryz.prog 71 #[.agg #[.string a0_0, .string a0_1, .bool a0_2]] w fun e w' => e = .returned (.bool r) ∧ Below w.heap.size w w' := by
  have hu44 := Tryz.underlying44
  have HB := Aside0.mk (Below.refl w.heap.size w)
  have H : (if a0_2 = true then (some false) else (some (!(Op.bytesLess a0_0.toList a0_1.toList)))) = some r := h
  clear h
  by_cases c2 : a0_2 = true
  · subst c2
    have H1 : (some false) = some r := by rw [if_pos rfl] at H; exact H
    clear H
    have H := H1
    clear H1
    obtain rfl := Option.some.inj H
    go_enter Tryz.func71, Tryz.ntmps71
    go_wp2_with (first | ((with_reducible refine gate_dst (N := 1) rfl ?_); refine box_event ?hg (N := 1) ?hd (cs := #[.string a0_0, .string a0_1, .bool true]) (t := 44) ?hr ?_; (case hd => rfl); (case hg => rfl); (case hr => first | (go_simp; done) | (go_simp; rfl)); intro gb183 hg w3 hbox hb; have n0_ := Aside0.mk (below_step (by repeat (first | (with_reducible first | exact HB.out | apply below_alloc | apply pw_below_drewN | apply below_drew1) | exact HB.out)) hb); have n1_ := Aside0.mk (hbox); have n2_ := Aside0.mk ((by rw [hg]; exact (below_size (by repeat (first | (with_reducible first | exact HB.out | apply below_alloc | apply pw_below_drewN | apply below_drew1) | exact HB.out))) : w.heap.size ≤ gb183)); have n3_ := Aside0.mk ((by rw [hg]; exact (below_size (by repeat (first | (with_reducible first | exact HB.out | apply below_alloc | apply pw_below_drewN | apply below_drew1) | exact HB.out))) : w.heap.size ≤ gb183)); clear HB; have HB := n0_; have BK183 := n1_; have GW183 := n2_; have GE183 := n3_; clear n0_ n1_ n2_ n3_; clear hb hbox hg; have hcz4_0 : w3.cell? ⟨gb183, 0, none⟩ = some (.string a0_0) := (blk_cell BK183.out 0).trans rfl; have hcz4_1 : w3.cell? ⟨gb183, 1, none⟩ = some (.string a0_1) := (blk_cell BK183.out 1).trans rfl; have hcz4_2 : w3.cell? ⟨gb183, 2, none⟩ = some (.bool true) := (blk_cell BK183.out 2).trans rfl; have hfz4_0 := blk_frozen BK183.out 0; have hfz4_1 := blk_frozen BK183.out 1; have hfz4_2 := blk_frozen BK183.out 2))
    go_ret
    exact ⟨by first | rfl | (simp [errW_none, errW_some] <;> rfl) | (simp [*, errW_none, errW_some] <;> rfl), by repeat (first | (with_reducible first | exact HB.out | apply below_alloc | apply pw_below_drewN | apply below_drew1 | refine below_set ?_ GE183.out) | exact HB.out)⟩
  · replace c2 := Bool.eq_false_iff.mpr c2
    subst c2
    have H1 : (some (!(Op.bytesLess a0_0.toList a0_1.toList))) = some r := by rw [if_neg (show ¬ (false = true) by decide)] at H; exact H
    clear H
    have H := H1
    clear H1
    obtain rfl := Option.some.inj H
    go_enter Tryz.func71, Tryz.ntmps71
    go_wp2_with (first | ((with_reducible refine gate_dst (N := 1) rfl ?_); refine box_event ?hg (N := 1) ?hd (cs := #[.string a0_0, .string a0_1, .bool false]) (t := 44) ?hr ?_; (case hd => rfl); (case hg => rfl); (case hr => first | (go_simp; done) | (go_simp; rfl)); intro gb183 hg w5 hbox hb; have n0_ := Aside0.mk (below_step (by repeat (first | (with_reducible first | exact HB.out | apply below_alloc | apply pw_below_drewN | apply below_drew1) | exact HB.out)) hb); have n1_ := Aside0.mk (hbox); have n2_ := Aside0.mk ((by rw [hg]; exact (below_size (by repeat (first | (with_reducible first | exact HB.out | apply below_alloc | apply pw_below_drewN | apply below_drew1) | exact HB.out))) : w.heap.size ≤ gb183)); have n3_ := Aside0.mk ((by rw [hg]; exact (below_size (by repeat (first | (with_reducible first | exact HB.out | apply below_alloc | apply pw_below_drewN | apply below_drew1) | exact HB.out))) : w.heap.size ≤ gb183)); clear HB; have HB := n0_; have BK183 := n1_; have GW183 := n2_; have GE183 := n3_; clear n0_ n1_ n2_ n3_; clear hb hbox hg; have hcz6_0 : w5.cell? ⟨gb183, 0, none⟩ = some (.string a0_0) := (blk_cell BK183.out 0).trans rfl; have hcz6_1 : w5.cell? ⟨gb183, 1, none⟩ = some (.string a0_1) := (blk_cell BK183.out 1).trans rfl; have hcz6_2 : w5.cell? ⟨gb183, 2, none⟩ = some (.bool false) := (blk_cell BK183.out 2).trans rfl; have hfz6_0 := blk_frozen BK183.out 0; have hfz6_1 := blk_frozen BK183.out 1; have hfz6_2 := blk_frozen BK183.out 2))
    go_ret
    exact ⟨by first | rfl | (simp [errW_none, errW_some] <;> rfl) | (simp [*, errW_none, errW_some] <;> rfl), by repeat (first | (with_reducible first | exact HB.out | apply below_alloc | apply pw_below_drewN | apply below_drew1 | refine below_set ?_ GE183.out) | exact HB.out)⟩
def api_Point_63.l0 : Nat → List (S37) → Int → Int → Int → Int → ByteArray → Option (Int)
  | 0, _, _, _, _, _, _ => none
  | k + 1, x0, x7, x8, x185000, x185001, x185002 => if x8 < x7 then (if 0 ≤ x8 then (if x8 < (x0.length : Int) then (if (x185000 == ((rd_T37 x0 x8).f0) && (x185001 == ((rd_T37 x0 x8).f1) && (x185002.toList == (((rd_T37 x0 x8).f2).toList)))) = true then (some x8) else (api_Point_63.l0 k x0 x7 (wrap64 (x8 + 1)) x185000 x185001 x185002)) else (none)) else (none)) else (some (-1))
def api_Point_63.f (k : Nat) (l0 : List (S37)) (a1_0 : Int) (a1_1 : Int) (a1_2 : ByteArray) : Option (Int) := api_Point_63.l0 k l0 (l0.length : Int) 0 a1_0 a1_1 a1_2
set_option maxHeartbeats 8000000 in
set_option maxRecDepth 100000 in
theorem api_Point_63.calls (k : Nat) (A0 : Option Addr) (c0 : Nat) (l0 : List (S37)) (a1_0 : Int) (a1_1 : Int) (a1_2 : ByteArray) (r : Int) (w : World) (hr0 : Kd.C k37 w A0 l0.length l0) (hc0 : l0.length ≤ c0) (h : api_Point_63.f k l0 a1_0 a1_1 a1_2 = some r) :
    Calls Tryz.prog 63 #[.slice A0 l0.length c0, .agg #[.int .i64 a1_0, .int .i64 a1_1, .string a1_2]] w fun e w' => e = .returned (.int .i64 r) ∧ Below w.heap.size w w' := by
  have hu37 := Tryz.underlying37
  have HR0 := Aside0.mk hr0
  have HC0 := Aside0.mk hc0
  clear hr0 hc0
  have HB := Aside0.mk (Below.refl w.heap.size w)
  have H : (api_Point_63.l0 k l0 (l0.length : Int) 0 a1_0 a1_1 a1_2) = some r := h
  clear h
  have H' := Aside0.mk H
  clear H
  go_enter Tryz.func63, Tryz.ntmps63
  go_wp2_with (first | ((with_reducible refine gate_dst (N := 3) rfl ?_); refine box_event ?hg (N := 3) ?hd (cs := #[.int .i64 a1_0, .int .i64 a1_1, .string a1_2]) (t := 37) ?hr ?_; (case hd => rfl); (case hg => rfl); (case hr => first | (go_simp; done) | (go_simp; rfl)); intro gb184 hg w3 hbox hb; have n0_ := Aside0.mk (below_step (by repeat (first | (with_reducible first | exact HB.out | apply below_alloc | apply pw_below_drewN | apply below_drew1) | exact HB.out)) hb); have n1_ := Aside0.mk (hbox); have n2_ := Aside0.mk ((by rw [hg]; exact (below_size (by repeat (first | (with_reducible first | exact HB.out | apply below_alloc | apply pw_below_drewN | apply below_drew1) | exact HB.out))) : w.heap.size ≤ gb184)); have n3_ := Aside0.mk ((by rw [hg]; exact (below_size (by repeat (first | (with_reducible first | exact HB.out | apply below_alloc | apply pw_below_drewN | apply below_drew1) | exact HB.out))) : w.heap.size ≤ gb184)); clear HB; have HB := n0_; have BK184 := n1_; have GW184 := n2_; have GE184 := n3_; clear n0_ n1_ n2_ n3_; clear hb hbox hg))
  repeat (go_quiet (first | ((with_reducible refine gate_dst (N := 3) rfl ?_); refine box_event ?hg (N := 3) ?hd (cs := #[.int .i64 a1_0, .int .i64 a1_1, .string a1_2]) (t := 37) ?hr ?_; (case hd => rfl); (case hg => rfl); (case hr => first | (go_simp; done) | (go_simp; rfl)); intro gb184 hg w3 hbox hb; have n0_ := Aside0.mk (below_step (by repeat (first | (with_reducible first | exact HB.out | apply below_alloc | apply pw_below_drewN | apply below_drew1) | exact HB.out)) hb); have n1_ := Aside0.mk (hbox); have n2_ := Aside0.mk ((by rw [hg]; exact (below_size (by repeat (first | (with_reducible first | exact HB.out | apply below_alloc | apply pw_below_drewN | apply below_drew1) | exact HB.out))) : w.heap.size ≤ gb184)); have n3_ := Aside0.mk ((by rw [hg]; exact (below_size (by repeat (first | (with_reducible first | exact HB.out | apply below_alloc | apply pw_below_drewN | apply below_drew1) | exact HB.out))) : w.heap.size ≤ gb184)); clear HB; have HB := n0_; have BK184 := n1_; have GW184 := n2_; have GE184 := n3_; clear n0_ n1_ n2_ n3_; clear hb hbox hg)); try go_wp2_with (first | ((with_reducible refine gate_dst (N := 3) rfl ?_); refine box_event ?hg (N := 3) ?hd (cs := #[.int .i64 a1_0, .int .i64 a1_1, .string a1_2]) (t := 37) ?hr ?_; (case hd => rfl); (case hg => rfl); (case hr => first | (go_simp; done) | (go_simp; rfl)); intro gb184 hg w3 hbox hb; have n0_ := Aside0.mk (below_step (by repeat (first | (with_reducible first | exact HB.out | apply below_alloc | apply pw_below_drewN | apply below_drew1) | exact HB.out)) hb); have n1_ := Aside0.mk (hbox); have n2_ := Aside0.mk ((by rw [hg]; exact (below_size (by repeat (first | (with_reducible first | exact HB.out | apply below_alloc | apply pw_below_drewN | apply below_drew1) | exact HB.out))) : w.heap.size ≤ gb184)); have n3_ := Aside0.mk ((by rw [hg]; exact (below_size (by repeat (first | (with_reducible first | exact HB.out | apply below_alloc | apply pw_below_drewN | apply below_drew1) | exact HB.out))) : w.heap.size ≤ gb184)); clear HB; have HB := n0_; have BK184 := n1_; have GW184 := n2_; have GE184 := n3_; clear n0_ n1_ n2_ n3_; clear hb hbox hg)))
  go_loopg [8] k (fun kq v8 w' => ∃ (x8_1 : Int), v8 = .int .i64 x8_1 ∧ Aside0 (api_Point_63.l0 kq l0 (l0.length : Int) x8_1 a1_0 a1_1 a1_2 = some r) ∧ Aside0 (kq ≤ k) ∧ Aside0 (w'.heap[gb184]? = some (.cells #[.int .i64 a1_0, .int .i64 a1_1, .string a1_2] 37 (0, 0))) ∧ Aside0 (Below w.heap.size w w'))
  case atStart => exact ⟨(0), (by first | rfl | (simp; done) | (simp [*]; done) | (simp [bool_ne_nil]; done) | (simp; exact bool_ne_nil _)), H', ⟨Nat.le_refl _⟩, ⟨by (with_reducible repeat (first | refine blk_drewN ?_ _ | refine blk_drew ?_ | refine blk_alloc ?_ _)); exact BK184.out⟩, ⟨by repeat (first | (with_reducible first | exact HB.out | apply below_alloc | apply pw_below_drewN | apply below_drew1 | refine below_set ?_ GE184.out) | exact HB.out)⟩⟩
  case round =>
    clear H'
    try clear p2
    obtain ⟨x8_1, rfl, HA, HK1, BK184, HB⟩ := hrel
    cases gk with
    | zero => exact absurd HA.out (by simp [api_Point_63.l0])
    | succ k1 =>
      have H := HA.out
      clear HA
      simp only [api_Point_63.l0] at H
      by_cases c4 : x8_1 < (l0.length : Int)
      · rw [if_pos c4] at H
        have c4b0 : decide (x8_1 < (l0.length : Int)) = true := decide_eq_true c4
        clear c4
        by_cases c5 : 0 ≤ x8_1
        · rw [if_pos c5] at H
          have c5b0 : decide (0 ≤ x8_1) = true := decide_eq_true c5
          clear c5
          by_cases c6 : x8_1 < (l0.length : Int)
          · rw [if_pos c6] at H
            have c6b0 : decide (x8_1 < (l0.length : Int)) = true := decide_eq_true c6
            clear c6
            by_cases c7 : (a1_0 == ((rd_T37 l0 x8_1).f0) && (a1_1 == ((rd_T37 l0 x8_1).f1) && (a1_2.toList == (((rd_T37 l0 x8_1).f2).toList)))) = true
            · rw [if_pos c7] at H
              have c7b0 : (a1_0 == ((rd_T37 l0 x8_1).f0) && (a1_1 == ((rd_T37 l0 x8_1).f1) && (a1_2.toList == (((rd_T37 l0 x8_1).f2).toList)))) = true := c7
              (try (have c7b1 : decide (a1_0 = ((rd_T37 l0 x8_1).f0) && (a1_1 == ((rd_T37 l0 x8_1).f1) && (a1_2.toList == (((rd_T37 l0 x8_1).f2).toList)))) = true := by simpa using c7))
              (try (have c7b2 : (a1_0 == ((rd_T37 l0 x8_1).f0) && (a1_1 == ((rd_T37 l0 x8_1).f1) && (a1_2.toList == (((rd_T37 l0 x8_1).f2).toList)))) = true := by simpa using c7))
              clear c7
              obtain rfl := Option.some.inj H
              have hcz8_0 : wr.cell? ⟨gb184, 0, none⟩ = some (.int .i64 a1_0) := (blk_cell BK184.out 0).trans rfl
              have hcz8_1 : wr.cell? ⟨gb184, 1, none⟩ = some (.int .i64 a1_1) := (blk_cell BK184.out 1).trans rfl
              have hcz8_2 : wr.cell? ⟨gb184, 2, none⟩ = some (.string a1_2) := (blk_cell BK184.out 2).trans rfl
              have hfz8_0 := blk_frozen BK184.out 0
              have hfz8_1 := blk_frozen BK184.out 1
              have hfz8_2 := blk_frozen BK184.out 2
              have p185 : 0 ≤ (x8_1 : Int) := of_decide_eq_true (by first | (with_reducible assumption) | assumption)
              have q185 : x8_1 < (l0.length : Int) := of_decide_eq_true (by first | (with_reducible assumption) | assumption)
              obtain ⟨ad185, e185, hx185_0, hx185_1, hx185_2⟩ := at_T37 HR0.out x8_1 p185 q185
              cases e185
              replace hx185_0 := (HB.out.cell (World.block_lt_of_cell? w _ hx185_0)).trans hx185_0
              replace hx185_1 := (HB.out.cell (World.block_lt_of_cell? w _ hx185_1)).trans hx185_1
              replace hx185_2 := (HB.out.cell (World.block_lt_of_cell? w _ hx185_2)).trans hx185_2
              replace p185 := eq_true p185
              replace q185 := eq_true q185
              go_wp2
              repeat (go_quiet (fail); try go_wp2)
              go_ret
              exact ⟨by first | rfl | (simp [errW_none, errW_some] <;> rfl) | (simp [*, errW_none, errW_some] <;> rfl), by repeat (first | (with_reducible first | exact HB.out | apply below_alloc | apply pw_below_drewN | apply below_drew1 | refine below_set ?_ GE184.out) | exact HB.out)⟩
            · rw [if_neg c7] at H
              have c7b0 : (a1_0 == ((rd_T37 l0 x8_1).f0) && (a1_1 == ((rd_T37 l0 x8_1).f1) && (a1_2.toList == (((rd_T37 l0 x8_1).f2).toList)))) = false := by simpa using c7
              (try (have c7b1 : decide (a1_0 = ((rd_T37 l0 x8_1).f0) && (a1_1 == ((rd_T37 l0 x8_1).f1) && (a1_2.toList == (((rd_T37 l0 x8_1).f2).toList)))) = false := by simpa using c7))
              (try (have c7b2 : (a1_0 == ((rd_T37 l0 x8_1).f0) && (a1_1 == ((rd_T37 l0 x8_1).f1) && (a1_2.toList == (((rd_T37 l0 x8_1).f2).toList)))) = false := by simpa using c7))
              (try (have c7b3 : ¬ (a1_0 = ((rd_T37 l0 x8_1).f0) && (a1_1 == ((rd_T37 l0 x8_1).f1) && (a1_2.toList == (((rd_T37 l0 x8_1).f2).toList)))) := by simpa using c7))
              clear c7
              have H' := Aside0.mk H
              clear H
              have hcz9_0 : wr.cell? ⟨gb184, 0, none⟩ = some (.int .i64 a1_0) := (blk_cell BK184.out 0).trans rfl
              have hcz9_1 : wr.cell? ⟨gb184, 1, none⟩ = some (.int .i64 a1_1) := (blk_cell BK184.out 1).trans rfl
              have hcz9_2 : wr.cell? ⟨gb184, 2, none⟩ = some (.string a1_2) := (blk_cell BK184.out 2).trans rfl
              have hfz9_0 := blk_frozen BK184.out 0
              have hfz9_1 := blk_frozen BK184.out 1
              have hfz9_2 := blk_frozen BK184.out 2
              have p185 : 0 ≤ (x8_1 : Int) := of_decide_eq_true (by first | (with_reducible assumption) | assumption)
              have q185 : x8_1 < (l0.length : Int) := of_decide_eq_true (by first | (with_reducible assumption) | assumption)
              obtain ⟨ad185, e185, hx185_0, hx185_1, hx185_2⟩ := at_T37 HR0.out x8_1 p185 q185
              cases e185
              replace hx185_0 := (HB.out.cell (World.block_lt_of_cell? w _ hx185_0)).trans hx185_0
              replace hx185_1 := (HB.out.cell (World.block_lt_of_cell? w _ hx185_1)).trans hx185_1
              replace hx185_2 := (HB.out.cell (World.block_lt_of_cell? w _ hx185_2)).trans hx185_2
              replace p185 := eq_true p185
              replace q185 := eq_true q185
              go_wp2
              repeat (go_quiet (fail); try go_wp2)
              go_roundg k1
              case measure => have := HK1.out; omega
              case rel => exact ⟨(wrap64 (x8_1 + 1)), (by first | rfl | (simp; done) | (simp [*]; done) | (simp [bool_ne_nil]; done) | (simp; exact bool_ne_nil _)), H', ⟨by have := HK1.out; omega⟩, ⟨by (with_reducible repeat (first | refine blk_drewN ?_ _ | refine blk_drew ?_ | refine blk_alloc ?_ _)); exact BK184.out⟩, ⟨by repeat (first | (with_reducible first | exact HB.out | apply below_alloc | apply pw_below_drewN | apply below_drew1 | refine below_set ?_ GE184.out) | exact HB.out)⟩⟩
          · rw [if_neg c6] at H
            exact absurd H (by simp)
        · rw [if_neg c5] at H
          exact absurd H (by simp)
      · rw [if_neg c4] at H
        have c4b0 : decide (x8_1 < (l0.length : Int)) = false := decide_eq_false c4
        clear c4
        obtain rfl := Option.some.inj H
        go_wp2
        repeat (go_quiet (fail); try go_wp2)
        go_ret
        exact ⟨by first | rfl | (simp [errW_none, errW_some] <;> rfl) | (simp [*, errW_none, errW_some] <;> rfl), by repeat (first | (with_reducible first | exact HB.out | apply below_alloc | apply pw_below_drewN | apply below_drew1 | refine below_set ?_ GE184.out) | exact HB.out)⟩
def api_Point_34.f (k : Nat) (l0 : List (S37)) (a1_0 : Int) (a1_1 : Int) (a1_2 : ByteArray) : Option (Bool) := (api_Point_63.f k l0 a1_0 a1_1 a1_2).bind fun t187 => (some (decide (t187 ≥ 0)))
set_option maxHeartbeats 8000000 in
set_option maxRecDepth 100000 in
theorem api_Point_34.calls (k : Nat) (A0 : Option Addr) (c0 : Nat) (l0 : List (S37)) (a1_0 : Int) (a1_1 : Int) (a1_2 : ByteArray) (r : Bool) (w : World) (hr0 : Kd.C k37 w A0 l0.length l0) (hc0 : l0.length ≤ c0) (h : api_Point_34.f k l0 a1_0 a1_1 a1_2 = some r) :
    Calls Tryz.prog 34 #[.slice A0 l0.length c0, .agg #[.int .i64 a1_0, .int .i64 a1_1, .string a1_2]] w fun e w' => e = .returned (.bool r) ∧ Below w.heap.size w w' := by
  have hu37 := Tryz.underlying37
  have HR0 := Aside0.mk hr0
  have HC0 := Aside0.mk hc0
  clear hr0 hc0
  have HB := Aside0.mk (Below.refl w.heap.size w)
  have H : ((api_Point_63.f k l0 a1_0 a1_1 a1_2).bind fun t187 => (some (decide (t187 ≥ 0)))) = some r := h
  clear h
  replace H := Option.bind_eq_some_iff.mp H
  obtain ⟨t187, A30, H⟩ := H
  replace H : (some (decide (t187 ≥ 0))) = some r := H
  have A3 := Aside0.mk A30
  clear A30
  obtain rfl := Option.some.inj H
  go_enter Tryz.func34, Tryz.ntmps34
  go_wp2_with (first | ((with_reducible refine gate_dst (N := 3) rfl ?_); refine box_event ?hg (N := 3) ?hd (cs := #[.int .i64 a1_0, .int .i64 a1_1, .string a1_2]) (t := 37) ?hr ?_; (case hd => rfl); (case hg => rfl); (case hr => first | (go_simp; done) | (go_simp; rfl)); intro gb186 hg w4 hbox hb; have n0_ := Aside0.mk (below_step (by repeat (first | (with_reducible first | exact HB.out | apply below_alloc | apply pw_below_drewN | apply below_drew1) | exact HB.out)) hb); have n1_ := Aside0.mk (hbox); have n2_ := Aside0.mk ((by rw [hg]; exact (below_size (by repeat (first | (with_reducible first | exact HB.out | apply below_alloc | apply pw_below_drewN | apply below_drew1) | exact HB.out))) : w.heap.size ≤ gb186)); have n3_ := Aside0.mk ((by rw [hg]; exact (below_size (by repeat (first | (with_reducible first | exact HB.out | apply below_alloc | apply pw_below_drewN | apply below_drew1) | exact HB.out))) : w.heap.size ≤ gb186)); clear HB; have HB := n0_; have BK186 := n1_; have GW186 := n2_; have GE186 := n3_; clear n0_ n1_ n2_ n3_; clear hb hbox hg; have hcz5_0 : w4.cell? ⟨gb186, 0, none⟩ = some (.int .i64 a1_0) := (blk_cell BK186.out 0).trans rfl; have hcz5_1 : w4.cell? ⟨gb186, 1, none⟩ = some (.int .i64 a1_1) := (blk_cell BK186.out 1).trans rfl; have hcz5_2 : w4.cell? ⟨gb186, 2, none⟩ = some (.string a1_2) := (blk_cell BK186.out 2).trans rfl; have hfz5_0 := blk_frozen BK186.out 0; have hfz5_1 := blk_frozen BK186.out 1; have hfz5_2 := blk_frozen BK186.out 2) | ((with_reducible refine gate_callee (f := 63) rfl ?_); refine goesL_ (some 7) rfl rfl Tryz.func63 (by kernel_rfl) rfl #[.slice A0 l0.length c0, .agg #[.int .i64 a1_0, .int .i64 a1_1, .string a1_2]] rfl (by (try simp only [List.map_toArray, List.map_cons, List.map_nil]); first | done | rfl | (simp only [List.length_drop, List.length_take]; rfl)) ?_; (with_reducible refine (api_Point_63.calls k _ _ l0 a1_0 a1_1 a1_2 t187 _ ?side1 ?side2 A3.out).mono ?_); (case side1 => repeat (first | exact (Kd.C_below HR0.out HB.out) | (with_reducible refine Kd.C_alloc ?_ _) | (with_reducible refine Kd.C_drewN ?_ _) | (with_reducible refine Kd.C_drew ?_))); (case side2 => exact HC0.out); rintro e w6 ⟨rfl, hb⟩; refine ⟨_, rfl, ?_⟩; have n0_ := Aside0.mk (blk_below (g := gb186) (o := .cells #[.int .i64 a1_0, .int .i64 a1_1, .string a1_2] 37 (0, 0)) (by (with_reducible repeat (first | refine blk_drewN ?_ _ | refine blk_drew ?_ | refine blk_alloc ?_ _)); exact BK186.out) hb); have n1_ := Aside0.mk (below_step (by repeat (first | (with_reducible first | exact HB.out | apply below_alloc | apply pw_below_drewN | apply below_drew1 | refine below_set ?_ GE186.out) | exact HB.out)) hb); clear BK186; clear HB; have BK186 := n0_; have HB := n1_; clear n0_ n1_; (try clear hb); (try clear hb2); (try clear hk); (try clear hi)))
  go_ret
  exact ⟨by first | rfl | (simp [errW_none, errW_some] <;> rfl) | (simp [*, errW_none, errW_some] <;> rfl), by repeat (first | (with_reducible first | exact HB.out | apply below_alloc | apply pw_below_drewN | apply below_drew1 | refine below_set ?_ GE186.out) | exact HB.out)⟩
end Go.Proofs.YtldlenjfpjihdaaGreat.PS
end
section
namespace Go.Proofs.YtldlenjfpjihdaaGreat.PS
open Go Go.RowKit Go.Proofs Go.Proofs.YtldlenjfpjihdaaGreatW.PrintWords
set_option linter.unusedVariables false
set_option linter.unusedSimpArgs false
def Ev {α : Type} (f : Nat → Option α) (v : α) : Prop := ∃ k0, ∀ k, k0 ≤ k → f k = some v
namespace Ev
variable {α β : Type} {f g : Nat → Option α} {v : α}
theorem pure {v : α} : Ev (fun _ => some v) v := ⟨0, fun _ _ => rfl⟩
theorem bind {F : Nat → α → Option β} {b : β} (h : Ev f v) (h2 : Ev (fun k => F k v) b) : Ev (fun k => (f k).bind (F k)) b := by
  obtain ⟨k0, h⟩ := h
  obtain ⟨k1, h2⟩ := h2
  exact ⟨max k0 k1, fun k hk => by show (f k).bind (F k) = some b; rw [h k (by omega)]; exact h2 k (by omega)⟩
theorem step (h : ∀ k, f (k + 1) = g k) (hg : Ev g v) : Ev f v := by
  obtain ⟨k0, hg⟩ := hg
  refine ⟨k0 + 1, fun k hk => ?_⟩
  obtain ⟨j, rfl⟩ : ∃ j, k = j + 1 := ⟨k - 1, by omega⟩
  rw [h]; exact hg j (by omega)
theorem from_ (n : Nat) (h : ∀ k, f (k + n) = some v) : Ev f v := ⟨n, fun k hk => by have := h (k - n); rwa [Nat.sub_add_cancel hk] at this⟩
theorem congr (h : ∀ k, f k = g k) (hg : Ev g v) : Ev f v := by obtain ⟨k0, hg⟩ := hg; exact ⟨k0, fun k hk => by rw [h]; exact hg k hk⟩
theorem pos {c : Prop} [Decidable c] (hc : c) (h : Ev f v) : Ev (fun k => if c then f k else g k) v := congr (fun k => if_pos hc) h
theorem ex (h : Ev f v) : ∃ k, f k = some v := by obtain ⟨k0, h⟩ := h; exact ⟨k0, h k0 (Nat.le_refl _)⟩
end Ev
theorem wrap64_id {n : Int} (h0 : -9223372036854775808 ≤ n) (h1 : n < 9223372036854775808) : wrap64 n = n := by unfold wrap64; omega
theorem rd37 {L : List S37} {i : Nat} {x : S37} (h : L[i]? = some x) : rd_T37 L (i : Int) = x := by unfold rd_T37; simp [List.getD, h]
theorem rd46 {L : List S46} {i : Nat} {x : S46} (h : L[i]? = some x) : rd_T46 L (i : Int) = x := by unfold rd_T46; simp [List.getD, h]
def bs (a : ByteArray) : List UInt8 := a.data.toList
theorem bless_eq (a b : ByteArray) : Op.bytesLess a.toList b.toList = decide (bs a < bs b) := by
  rw [Go.Proofs.bytesLess_eq, Go.Lib.toList_data, Go.Lib.toList_data]
  rfl
theorem bs_inj {a b : ByteArray} (h : bs a = bs b) : a = b := by
  cases a; cases b
  unfold bs at h
  congr
  exact Array.toList_inj.1 h
/-- The order of keys. -/
def cmpS (a b : List UInt8) : Int := if a < b then -1 else if b < a then 1 else 0
theorem cmpB_eq : ∀ a b : List UInt8, Lib.compareBytes a b = cmpS a b
  | [], [] => rfl
  | [], _ :: _ => rfl
  | _ :: _, [] => rfl
  | x :: a, y :: b => by
    unfold Lib.compareBytes
    by_cases h1 : x < y
    · have h : x :: a < y :: b := List.cons_lt_cons_iff.2 (.inl h1)
      simp [h1, cmpS, h]
    · by_cases h2 : y < x
      · have hn : ¬ x = y := fun e => by subst e; exact h1 h2
        have h : ¬ x :: a < y :: b := fun h => (List.cons_lt_cons_iff.1 h).elim h1 (fun h => hn h.1)
        have h' : y :: b < x :: a := List.cons_lt_cons_iff.2 (.inl h2)
        simp [h1, h2, cmpS, h, h']
      · have e : x = y := UInt8.le_antisymm (UInt8.not_lt.1 h2) (UInt8.not_lt.1 h1)
        subst e
        simp only [h1, if_false, cmpB_eq a b, cmpS, List.cons_lt_cons_iff, false_or, true_and]
/-- How points stand. -/
def cmpP (a b : S37) : Int :=
  if a.f0 = b.f0 then (if a.f1 = b.f1 then cmpS (bs a.f2) (bs b.f2) else if a.f1 < b.f1 then -1 else 1) else if a.f0 < b.f0 then -1 else 1
def ltP (a b : S37) : Prop := a.f0 < b.f0 ∨ (a.f0 = b.f0 ∧ (a.f1 < b.f1 ∨ (a.f1 = b.f1 ∧ bs a.f2 < bs b.f2)))
instance (a b : S37) : Decidable (ltP a b) := by unfold ltP; infer_instance
theorem ltP_irrefl (a : S37) : ¬ ltP a a := by
  rintro (h | ⟨_, h | ⟨_, h⟩⟩)
  · omega
  · omega
  · exact List.lt_irrefl _ h
theorem ltP_trans {a b c : S37} (h1 : ltP a b) (h2 : ltP b c) : ltP a c := by
  unfold ltP at *
  rcases h1 with h1 | ⟨e1, h1 | ⟨e2, h1⟩⟩ <;> rcases h2 with h2 | ⟨e3, h2 | ⟨e4, h2⟩⟩
  all_goals first | exact .inl (by omega) | exact .inr ⟨by omega, .inl (by omega)⟩ | exact .inr ⟨by omega, .inr ⟨by omega, List.lt_trans h1 h2⟩⟩
theorem ltP_tri (a b : S37) : ltP a b ∨ a = b ∨ ltP b a := by
  unfold ltP
  by_cases h0 : a.f0 = b.f0
  · by_cases h1 : a.f1 = b.f1
    · by_cases h2 : bs a.f2 < bs b.f2
      · exact .inl (.inr ⟨h0, .inr ⟨h1, h2⟩⟩)
      · by_cases h3 : bs b.f2 < bs a.f2
        · exact .inr (.inr (.inr ⟨h0.symm, .inr ⟨h1.symm, h3⟩⟩))
        · refine .inr (.inl ?_)
          have e := bs_inj (List.le_antisymm (List.not_lt.1 h3) (List.not_lt.1 h2))
          cases a; cases b
          simp_all
    · rcases Int.lt_or_gt_of_ne h1 with h | h
      · exact .inl (.inr ⟨h0, .inl h⟩)
      · exact .inr (.inr (.inr ⟨h0.symm, .inl h⟩))
  · rcases Int.lt_or_gt_of_ne h0 with h | h
    · exact .inl (.inl h)
    · exact .inr (.inr (.inl h))
theorem cmpP_eq (a b : S37) : cmpP a b = if ltP a b then -1 else if ltP b a then 1 else 0 := by
  by_cases h0 : a.f0 = b.f0
  · by_cases h1 : a.f1 = b.f1
    · have e1 : ltP a b ↔ bs a.f2 < bs b.f2 := ⟨fun h => h.elim (fun h => absurd h0 (by omega)) (fun h => h.2.elim (fun h => absurd h1 (by omega)) (fun h => h.2)), fun h => .inr ⟨h0, .inr ⟨h1, h⟩⟩⟩
      have e2 : ltP b a ↔ bs b.f2 < bs a.f2 := ⟨fun h => h.elim (fun h => absurd h0 (by omega)) (fun h => h.2.elim (fun h => absurd h1 (by omega)) (fun h => h.2)), fun h => .inr ⟨h0.symm, .inr ⟨h1.symm, h⟩⟩⟩
      unfold cmpP cmpS
      simp only [if_pos h0, if_pos h1, e1, e2]
    · have e1 : ltP a b ↔ a.f1 < b.f1 := ⟨fun h => h.elim (fun h => absurd h0 (by omega)) (fun h => h.2.elim id (fun h => absurd h.1 h1)), fun h => .inr ⟨h0, .inl h⟩⟩
      have e2 : ltP b a ↔ b.f1 < a.f1 := ⟨fun h => h.elim (fun h => absurd h0 (by omega)) (fun h => h.2.elim id (fun h => absurd h.1.symm h1)), fun h => .inr ⟨h0.symm, .inl h⟩⟩
      unfold cmpP
      simp only [if_pos h0, if_neg h1, e1, e2]
      repeat' split
      all_goals omega
  · have e1 : ltP a b ↔ a.f0 < b.f0 := ⟨fun h => h.elim id (fun h => absurd h.1 h0), .inl⟩
    have e2 : ltP b a ↔ b.f0 < a.f0 := ⟨fun h => h.elim id (fun h => absurd h.1.symm h0), .inl⟩
    unfold cmpP
    simp only [if_neg h0, e1, e2]
    repeat' split
    all_goals omega
theorem cmpP_lt (a b : S37) : cmpP a b < 0 ↔ ltP a b := by
  rw [cmpP_eq]
  by_cases h : ltP a b
  · simp [h]
  · by_cases h2 : ltP b a
    · simp [h, h2]
    · simp [h, h2]
theorem cmpI_eq (a b : Int) : cmp_Compare_int.f a b = some (if a < b then -1 else if b < a then 1 else 0) := by
  unfold cmp_Compare_int.f cmp_isNaN_int.f
  simp only [bne_self_eq_false, Option.bind_some, Bool.false_eq_true, if_false]
  repeat' split
  all_goals rfl
theorem or3_ev (a b c : Int) : Ev (fun k => cmp_Or_int.f k [a, b, c]) (if a = 0 then (if b = 0 then c else b) else a) := by
  refine Ev.from_ 4 (fun k => ?_)
  have e1 : wrap64 (0 + 1) = 1 := wrap64_id (by decide) (by decide)
  have e2 : wrap64 (1 + 1) = 2 := wrap64_id (by decide) (by decide)
  have e3 : wrap64 (2 + 1) = 3 := wrap64_id (by decide) (by decide)
  have r0 : rd [a, b, c] 0 = a := rfl
  have r1 : rd [a, b, c] 1 = b := rfl
  have r2 : rd [a, b, c] 2 = c := rfl
  unfold cmp_Or_int.f
  have hl : (([a, b, c] : List Int).length : Int) = 3 := rfl
  rw [hl, cmp_Or_int.l0, r0, e1, cmp_Or_int.l0, r1, e2, cmp_Or_int.l0, r2, e3, cmp_Or_int.l0, hl]
  by_cases ha : a = 0
  · by_cases hb : b = 0
    · by_cases hc : c = 0 <;> simp [ha, hb, hc]
    · simp [ha, hb]
  · simp [ha]
theorem before_ev (a b : S37) : Ev (fun k => sets_before.f k a.f0 a.f1 a.f2 b.f0 b.f1 b.f2) (cmpP a b) := by
  unfold sets_before.f strings_Compare.f
  simp only [cmpI_eq, Option.bind_some]
  refine Ev.bind (F := fun _ t => some t) (v := cmpP a b) ?_ Ev.pure
  have h := or3_ev (if a.f0 < b.f0 then -1 else if b.f0 < a.f0 then 1 else 0) (if a.f1 < b.f1 then -1 else if b.f1 < a.f1 then 1 else 0) (Lib.compareBytes a.f2.data.toList b.f2.data.toList)
  have e : (if (if a.f0 < b.f0 then (-1 : Int) else if b.f0 < a.f0 then 1 else 0) = 0 then (if (if a.f1 < b.f1 then (-1 : Int) else if b.f1 < a.f1 then 1 else 0) = 0 then Lib.compareBytes a.f2.data.toList b.f2.data.toList else if a.f1 < b.f1 then -1 else if b.f1 < a.f1 then 1 else 0) else if a.f0 < b.f0 then -1 else if b.f0 < a.f0 then 1 else 0) = cmpP a b := by
    rw [cmpB_eq]
    unfold cmpP bs
    repeat' split
    all_goals first | rfl | omega
  rwa [e] at h
/-- The first of some points, so far. -/
def lstep (acc : Option S37) (p : S37) : Option S37 := match acc with | none => some p | some q => if ltP p q then some p else some q
def leastS (l : List S37) : Option S37 := l.foldl lstep none
theorem foldl_filter (f : S37 → Bool) (l : List S37) : ∀ acc, l.foldl (fun a p => if f p = true then lstep a p else a) acc = (l.filter f).foldl lstep acc := by
  induction l with
  | nil => intro acc; rfl
  | cons y r ih =>
    intro acc
    rw [List.foldl_cons, ih, List.filter_cons]
    by_cases h : f y = true
    · rw [if_pos h, if_pos h]; rfl
    · rw [if_neg h, if_neg h]
def eqP (a b : S37) : Bool := a.f0 == b.f0 && (a.f1 == b.f1 && (a.f2.toList == b.f2.toList))
theorem toList_inj {a b : ByteArray} (h : a.toList = b.toList) : a = b := by
  rw [Go.Lib.toList_data, Go.Lib.toList_data] at h
  exact bs_inj h
theorem eqP_iff (a b : S37) : eqP a b = true ↔ a = b := by
  unfold eqP
  cases a; cases b
  simp only [Bool.and_eq_true, beq_iff_eq, S37.mk.injEq]
  exact ⟨fun h => ⟨h.1, h.2.1, toList_inj h.2.2⟩, fun h => ⟨h.1, h.2.1, by rw [h.2.2]⟩⟩
def hasB (r : S44) (key : ByteArray) : Bool := !(decide (bs key < bs r.f0)) && (r.f2 || decide (bs key < bs r.f1))
theorem has_eq (r : S44) (key : ByteArray) : vellumref02_Has.f r.f0 r.f1 r.f2 key = some (hasB r key) := by
  unfold vellumref02_Has.f hasB
  rw [bless_eq, bless_eq]
  by_cases h : bs key < bs r.f0
  · simp [h]
  · cases h2 : r.f2 <;> simp [h]
theorem chas_eq (r : S44) (key : ByteArray) : code_Has.f r.f0 r.f1 r.f2 key = some (hasB r key) := has_eq r key
def spanB (p : S37) (s : S46) : Bool := (s.f0 == p.f0 && s.f1 == p.f1) && hasB s.f2 p.f2
def readsS (ps : List S37) (ss : List S46) (p : S37) : Bool := ps.any (eqP p) || ss.any (spanB p)
theorem any_drop {α : Type} {L : List α} {i : Nat} {x : α} (hx : L[i]? = some x) (f : α → Bool) : (L.drop i).any f = (f x || (L.drop (i + 1)).any f) := by
  have hlt := (List.getElem?_eq_some_iff.1 hx).1
  rw [List.drop_eq_getElem_cons hlt, (List.getElem?_eq_some_iff.1 hx).2]
  rfl
theorem run_loop {σ β : Type} (n : Nat) (g : Nat → Nat → σ → Option β) (st : Nat → σ) (e : Nat → σ → Option β) (r : β) (h1 : ∀ i k, i < n → g (k + 1) i (st i) = g k (i + 1) (st (i + 1))) (h2 : ∀ k, g (k + 1) n (st n) = e k (st n)) (h3 : Ev (fun k => e k (st n)) r) : Ev (fun k => g k 0 (st 0)) r := by
  have go : ∀ (m i : Nat), i + m = n → Ev (fun k => g k i (st i)) r := by
    intro m
    induction m with
    | zero => intro i hi; obtain rfl : i = n := (by omega); exact Ev.step (fun k => h2 k) h3
    | succ m ih => intro i hi; exact Ev.step (fun k => h1 i k (by omega)) (ih (i + 1) (by omega))
  exact go n 0 (by omega)
theorem take_snoc {α : Type} {L : List α} {i : Nat} {x : α} (hx : L[i]? = some x) : L.take (i + 1) = L.take i ++ [x] := by rw [List.take_add_one, hx]; rfl
theorem ex_get {α : Type} {L : List α} {i : Nat} (h : i < L.length) : ∃ x, L[i]? = some x := ⟨_, List.getElem?_eq_getElem h⟩
theorem both_ev (ps : List S37) (ss : List S46) (ws qs : List S37) (ts : List S46) (vs : List S37) (h1 : ps.length + qs.length < 4398046511104) (h2 : ss.length + ts.length < 2513169434916) (h3 : ws.length + vs.length < 4398046511104) : Ev (fun k => vellumref17_both.f k ps ss ws qs ts vs) (ps ++ qs, ss ++ ts, ws ++ vs) := by
  unfold vellumref17_both.f
  refine Ev.congr (fun k => ?_) (run_loop ps.length (fun k i acc => vellumref17_both.l0 k (i : Int) ps ss ws qs ts vs  acc) (fun i => ps.take i) (fun k acc => vellumref17_both.l1 k 0 ps ss ws qs ts vs acc) (ps ++ qs, ss ++ ts, ws ++ vs) (fun i k hi => ?_) (fun k => ?_) ?_)
  · simp only [List.take_zero]
    rfl
  · obtain ⟨x, hx⟩ := ex_get hi
    show vellumref17_both.l0 (k + 1) (i : Int) ps ss ws qs ts vs  _ = vellumref17_both.l0 k ((i + 1 : Nat) : Int) ps ss ws qs ts vs  _
    simp only [vellumref17_both.l0]
    rw [if_pos (by omega), if_pos (by omega), if_pos (by simp only [List.length_append, List.length_take]; omega), rd37 hx, wrap64_id (by omega) (by omega), take_snoc hx]
    rfl
  · simp only [vellumref17_both.l0]
    rw [if_neg (by omega)]
  simp only [List.take_length]
  refine Ev.congr (fun k => ?_) (run_loop qs.length (fun k i acc => vellumref17_both.l1 k (i : Int) ps ss ws qs ts vs  acc) (fun i => ps ++ qs.take i) (fun k acc => vellumref17_both.l2 k 0 ps ss ws qs ts vs acc []) (ps ++ qs, ss ++ ts, ws ++ vs) (fun i k hi => ?_) (fun k => ?_) ?_)
  · simp only [List.take_zero, List.append_nil]
    rfl
  · obtain ⟨x, hx⟩ := ex_get hi
    show vellumref17_both.l1 (k + 1) (i : Int) ps ss ws qs ts vs  _ = vellumref17_both.l1 k ((i + 1 : Nat) : Int) ps ss ws qs ts vs  _
    simp only [vellumref17_both.l1]
    rw [if_pos (by omega), if_pos (by omega), if_pos (by simp only [List.length_append, List.length_take]; omega), rd37 hx, wrap64_id (by omega) (by omega), take_snoc hx, ← List.append_assoc]
    rfl
  · simp only [vellumref17_both.l1]
    rw [if_neg (by omega)]
  simp only [List.take_length]
  refine Ev.congr (fun k => ?_) (run_loop ss.length (fun k i acc => vellumref17_both.l2 k (i : Int) ps ss ws qs ts vs (ps ++ qs) acc) (fun i => ss.take i) (fun k acc => vellumref17_both.l3 k 0 ps ss ws qs ts vs (ps ++ qs) acc) (ps ++ qs, ss ++ ts, ws ++ vs) (fun i k hi => ?_) (fun k => ?_) ?_)
  · simp only [List.take_zero]
    rfl
  · obtain ⟨x, hx⟩ := ex_get hi
    show vellumref17_both.l2 (k + 1) (i : Int) ps ss ws qs ts vs (ps ++ qs) _ = vellumref17_both.l2 k ((i + 1 : Nat) : Int) ps ss ws qs ts vs (ps ++ qs) _
    simp only [vellumref17_both.l2]
    rw [if_pos (by omega), if_pos (by omega), if_pos (by simp only [List.length_append, List.length_take]; omega), rd46 hx, wrap64_id (by omega) (by omega), take_snoc hx]
    rfl
  · simp only [vellumref17_both.l2]
    rw [if_neg (by omega)]
  simp only [List.take_length]
  refine Ev.congr (fun k => ?_) (run_loop ts.length (fun k i acc => vellumref17_both.l3 k (i : Int) ps ss ws qs ts vs (ps ++ qs) acc) (fun i => ss ++ ts.take i) (fun k acc => vellumref17_both.l4 k 0 ps ss ws qs ts vs (ps ++ qs) acc []) (ps ++ qs, ss ++ ts, ws ++ vs) (fun i k hi => ?_) (fun k => ?_) ?_)
  · simp only [List.take_zero, List.append_nil]
    rfl
  · obtain ⟨x, hx⟩ := ex_get hi
    show vellumref17_both.l3 (k + 1) (i : Int) ps ss ws qs ts vs (ps ++ qs) _ = vellumref17_both.l3 k ((i + 1 : Nat) : Int) ps ss ws qs ts vs (ps ++ qs) _
    simp only [vellumref17_both.l3]
    rw [if_pos (by omega), if_pos (by omega), if_pos (by simp only [List.length_append, List.length_take]; omega), rd46 hx, wrap64_id (by omega) (by omega), take_snoc hx, ← List.append_assoc]
    rfl
  · simp only [vellumref17_both.l3]
    rw [if_neg (by omega)]
  simp only [List.take_length]
  refine Ev.congr (fun k => ?_) (run_loop ws.length (fun k i acc => vellumref17_both.l4 k (i : Int) ps ss ws qs ts vs (ps ++ qs) (ss ++ ts) acc) (fun i => ws.take i) (fun k acc => vellumref17_both.l5 k 0 qs ts vs (ps ++ qs) (ss ++ ts) acc) (ps ++ qs, ss ++ ts, ws ++ vs) (fun i k hi => ?_) (fun k => ?_) ?_)
  · simp only [List.take_zero]
    rfl
  · obtain ⟨x, hx⟩ := ex_get hi
    show vellumref17_both.l4 (k + 1) (i : Int) ps ss ws qs ts vs (ps ++ qs) (ss ++ ts) _ = vellumref17_both.l4 k ((i + 1 : Nat) : Int) ps ss ws qs ts vs (ps ++ qs) (ss ++ ts) _
    simp only [vellumref17_both.l4]
    rw [if_pos (by omega), if_pos (by omega), if_pos (by simp only [List.length_append, List.length_take]; omega), rd37 hx, wrap64_id (by omega) (by omega), take_snoc hx]
    rfl
  · simp only [vellumref17_both.l4]
    rw [if_neg (by omega)]
  simp only [List.take_length]
  refine Ev.congr (fun k => ?_) (run_loop vs.length (fun k i acc => vellumref17_both.l5 k (i : Int) qs ts vs (ps ++ qs) (ss ++ ts) acc) (fun i => ws ++ vs.take i) (fun k acc => some (ps ++ qs, ss ++ ts, acc)) (ps ++ qs, ss ++ ts, ws ++ vs) (fun i k hi => ?_) (fun k => ?_) ?_)
  · simp only [List.take_zero, List.append_nil]
    rfl
  · obtain ⟨x, hx⟩ := ex_get hi
    show vellumref17_both.l5 (k + 1) (i : Int) qs ts vs (ps ++ qs) (ss ++ ts) _ = vellumref17_both.l5 k ((i + 1 : Nat) : Int) qs ts vs (ps ++ qs) (ss ++ ts) _
    simp only [vellumref17_both.l5]
    rw [if_pos (by omega), if_pos (by omega), if_pos (by simp only [List.length_append, List.length_take]; omega), rd37 hx, wrap64_id (by omega) (by omega), take_snoc hx, ← List.append_assoc]
    rfl
  · simp only [vellumref17_both.l5]
    rw [if_neg (by omega)]
  simp only [List.take_length]
  exact Ev.pure
theorem copy_ev (ps : List S37) (ss : List S46) (ws : List S37) (h1 : ps.length < 4398046511104) (h2 : ss.length < 2513169434916) (h3 : ws.length < 4398046511104) : Ev (fun k => vellumref17_Copy.f k ps ss ws) (ps, ss, ws) := by
  unfold vellumref17_Copy.f
  have h := both_ev ps ss ws [] [] [] (by simpa using h1) (by simpa using h2) (by simpa using h3)
  simp only [List.append_nil] at h
  exact Ev.bind (F := fun _ t => some (t.1, t.2.1, t.2.2)) h Ev.pure
theorem same_ev (ps : List S37) (ss : List S46) (ws : List S37) (h1 : ps.length < 4398046511104) (h2 : ss.length < 2513169434916) (h3 : ws.length < 4398046511104) : Ev (fun k => vellumref17_Same.f k ps ss ws ps ss ws) true := by
  unfold vellumref17_Same.f
  refine Ev.pos rfl (Ev.pos rfl (Ev.step (g := fun k => vellumref17_Same.l0 k 0 ps ss ws ps ss ws) (fun k => ?_) ?_))
  · simp only [vellumref17_Same.j0, bne_self_eq_false, Bool.false_eq_true, if_false]
  refine Ev.congr (fun k => rfl) (run_loop ps.length (fun k i (_ : Unit) => vellumref17_Same.l0 k (i : Int) ps ss ws ps ss ws) (fun i => ()) (fun k _ => vellumref17_Same.l1 k 0 ps ss ws ps ss ws) true (fun i k hi => ?_) (fun k => ?_) ?_)
  · show vellumref17_Same.l0 (k + 1) (i : Int) ps ss ws ps ss ws = vellumref17_Same.l0 k ((i + 1 : Nat) : Int) ps ss ws ps ss ws
    simp only [vellumref17_Same.l0, beq_self_eq_true, Bool.not_true, Bool.or_false, Bool.false_eq_true, if_false]
    rw [if_pos (by omega), if_pos (by omega), if_pos (by omega), wrap64_id (by omega) (by omega)]
    rfl
  · simp only [vellumref17_Same.l0]
    rw [if_neg (by omega)]
  refine Ev.congr (fun k => rfl) (run_loop ss.length (fun k i (_ : Unit) => vellumref17_Same.l1 k (i : Int) ps ss ws ps ss ws) (fun i => ()) (fun k _ => vellumref17_Same.l2 k 0 ps ss ws ps ss ws) true (fun i k hi => ?_) (fun k => ?_) ?_)
  · show vellumref17_Same.l1 (k + 1) (i : Int) ps ss ws ps ss ws = vellumref17_Same.l1 k ((i + 1 : Nat) : Int) ps ss ws ps ss ws
    simp only [vellumref17_Same.l1, beq_self_eq_true, Bool.not_true, Bool.or_false, Bool.false_eq_true, if_false]
    rw [if_pos (by omega), if_pos (by omega), if_pos (by omega), wrap64_id (by omega) (by omega)]
    rfl
  · simp only [vellumref17_Same.l1]
    rw [if_neg (by omega)]
  refine Ev.congr (fun k => rfl) (run_loop ws.length (fun k i (_ : Unit) => vellumref17_Same.l2 k (i : Int) ps ss ws ps ss ws) (fun i => ()) (fun k _ => some true) true (fun i k hi => ?_) (fun k => ?_) ?_)
  · show vellumref17_Same.l2 (k + 1) (i : Int) ps ss ws ps ss ws = vellumref17_Same.l2 k ((i + 1 : Nat) : Int) ps ss ws ps ss ws
    simp only [vellumref17_Same.l2, beq_self_eq_true, Bool.not_true, Bool.or_false, Bool.false_eq_true, if_false]
    rw [if_pos (by omega), if_pos (by omega), if_pos (by omega), wrap64_id (by omega) (by omega)]
    rfl
  · simp only [vellumref17_Same.l2]
    rw [if_neg (by omega)]
  exact Ev.pure
/-- Is a point among some? -/
theorem contains_ev (L : List S37) (p : S37) (hl : L.length < 4611686018427387904) : Ev (fun k => api_Point_34.f k L p.f0 p.f1 p.f2) (L.any (eqP p)) := by
  unfold api_Point_34.f api_Point_63.f
  have go : ∀ (m i : Nat), i + m = L.length → ∃ r : Int, Ev (fun k => api_Point_63.l0 k L (L.length : Int) (i : Int) p.f0 p.f1 p.f2) r ∧ decide (r ≥ 0) = (L.drop i).any (eqP p) := by
    intro m
    induction m with
    | zero =>
      intro i hi
      refine ⟨-1, Ev.from_ 1 fun k => ?_, ?_⟩
      · simp only [api_Point_63.l0]
        rw [if_neg (by omega)]
      · rw [List.drop_eq_nil_of_le (by omega)]; rfl
    | succ m ih =>
      intro i hi
      obtain ⟨x, hx⟩ := ex_get (L := L) (i := i) (by omega)
      rw [any_drop hx]
      by_cases e : eqP p x = true
      · refine ⟨i, Ev.from_ 1 fun k => ?_, ?_⟩
        · simp only [api_Point_63.l0]
          have e' := e
          unfold eqP at e'
          rw [if_pos (by omega), if_pos (by omega), if_pos (by omega), rd37 hx, if_pos e']
        · rw [e, Bool.true_or]; simp
      · obtain ⟨r, h1, h2⟩ := ih (i + 1) (by omega)
        rw [Bool.not_eq_true] at e
        refine ⟨r, Ev.step (fun k => ?_) h1, by rw [e, Bool.false_or]; exact h2⟩
        simp only [api_Point_63.l0]
        have e' : ¬ eqP p x = true := by rw [e]; decide
        unfold eqP at e'
        rw [if_pos (by omega), if_pos (by omega), if_pos (by omega), rd37 hx, if_neg e', wrap64_id (by omega) (by omega)]
        rfl
  obtain ⟨r, h1, h2⟩ := go L.length 0 (by omega)
  rw [List.drop_zero] at h2
  rw [← h2]
  exact Ev.bind (F := fun _ t => some (decide (t ≥ 0))) h1 Ev.pure
instance : DecidableEq S37 := fun a b => if h : eqP a b = true then isTrue ((eqP_iff a b).1 h) else isFalse (fun e => h ((eqP_iff a b).2 e))
/-- In order, each once. -/
def Sorts (l r : List S37) : Prop := r.Pairwise ltP ∧ (∀ z, z ∈ r ↔ z ∈ l) ∧ r.length ≤ l.length
end Go.Proofs.YtldlenjfpjihdaaGreat.PS
end
section
namespace Go.Proofs.YtldlenjfpjihdaaGreat.PS
open Go Go.RowKit Go.Proofs Go.Maps Go.WideMaps Go.Proofs.YtldlenjfpjihdaaGreatW.PrintWords
set_option linter.unusedVariables false
set_option linter.unusedSimpArgs false
def pv (x : S37) : Value := .agg #[.int .i64 x.f0, .int .i64 x.f1, .string x.f2]
def wfP (x : S37) : Prop := (Lit.int .i64 x.f0).wf = true ∧ (Lit.int .i64 x.f1).wf = true ∧ x.f2.size ≤ maxLen
def pk (x : S37) : Lit := .string (keyBytes [.int .i64 x.f0, .int .i64 x.f1, .string x.f2.data.toList])
theorem laidOut_ : laidOutB Tryz.prog = true := by kernel_rfl
theorem row37 : (37 : TypeId) < Tryz.prog.types.size := of_decide_eq_true (by kernel_rfl)
theorem wide37 : (match Tryz.prog.underlying 37 with | some (.array _ _) | some (.struct _) => true | _ => false) = true := by rw [Tryz.underlying37]
set_option maxRecDepth 100000 in
theorem law37 : KeyLaw Tryz.prog 37 := deep_law_laid laidOut_ (m := 2) (by omega) row37 (by kernel_rfl) wide37
theorem kmap : Keyed Tryz.prog 37 := Keyed.of_law law37
theorem kt37 : Tryz.prog.keyType 37 = true := by kernel_rfl
theorem size37 : Tryz.prog.cellsOf 37 = 3 := by kernel_rfl
theorem size3 : Tryz.prog.cellsOf 3 = 1 := by kernel_rfl
theorem size9 : Tryz.prog.cellsOf 9 = 1 := by kernel_rfl
set_option maxRecDepth 100000 in
theorem msize : ∃ m, Tryz.prog.types.size = m + 1 := ⟨Tryz.prog.types.size - 1, (Nat.succ_pred_eq_of_pos (Nat.lt_of_le_of_lt (Nat.zero_le _) row37)).symm⟩
theorem kpt {x : S37} (h : wfP x) : keyOf Tryz.prog 37 (pv x) = some (pk x) := by
  have hkt := kt37
  obtain ⟨m, hm⟩ := msize
  obtain ⟨h0, h1, h2⟩ := h
  unfold keyOf pv pk
  simp only [Tryz.underlying37]
  rw [if_pos (by simp [hkt, Value.formed, Tryz.underlying37, size37]), hm]
  unfold Program.keyLits
  simp only [Tryz.underlying37, Value.cells]
  rw [if_pos ⟨by rw [size37]; rfl, by kernel_rfl⟩]
  simp [size3, size9, Program.keyLits, Tryz.underlying3, Tryz.underlying9, h0, h1, h2]
theorem pv_inj {x y : S37} (h : pv x = pv y) : x = y := by
  cases x; cases y
  simpa [pv] using h
theorem pk_inj {x y : S37} (hx : wfP x) (hy : wfP y) (h : pk x = pk y) : x = y := by
  have h1 := kpt hx
  rw [h] at h1
  exact pv_inj (kmap.inj h1 (kpt hy))
def ru : Value → Option (DataW Unit × List MemPlace)
  | .agg ⟨[]⟩ => some (.nil, [])
  | _ => none
theorem ru_inv {v : Value} {x : DataW Unit × List MemPlace} (h : ru v = some x) : v = .agg #[] := by
  unfold ru at h
  split at h
  · rfl
  · cases h
/-- A map that has just the points of a list. -/
def PM (w : World) (m nn : Nat) (L : List S37) : Prop := ∃ D : DataW Unit, w.ownsMap Tryz.prog 37 ru m nn D ∧ ∀ x, wfP x → Maps.has D (pk x) = L.any (eqP x)
theorem PM.blk {w : World} {m nn : Nat} {L : List S37} (h : PM w m nn L) : ∃ es clock, w.heap[m]? = some (.map es clock) := by
  obtain ⟨D, ⟨es, clock, h1, _⟩, _⟩ := h
  exact ⟨es, clock, h1⟩
theorem PM.same {w w' : World} {m nn : Nat} {L : List S37} (h : PM w m nn L) (hm : w'.heap[m]? = w.heap[m]?) : PM w' m nn L := by
  obtain ⟨D, ⟨es, clock, h1, h2⟩, h3⟩ := h
  exact ⟨D, ⟨es, clock, hm.trans h1, h2⟩, h3⟩
theorem PM.lt {w : World} {m nn : Nat} {L : List S37} (h : PM w m nn L) : m < w.heap.size := by
  obtain ⟨es, clock, h1⟩ := h.blk
  exact (Array.getElem?_eq_some_iff.1 h1).1
theorem PM.below {w w' : World} {m nn : Nat} {L : List S37} (h : PM w m nn L) (hb : Below w.heap.size w w') : PM w' m nn L := h.same (hb.block m h.lt)
theorem PM.new (w : World) : PM (w.alloc (.map #[] 0)) w.heap.size 0 [] :=
  ⟨.map [], World.ownsMap_made w Tryz.prog 37 ru, fun x _ => rfl⟩
theorem PM.look {w : World} {m nn : Nat} {L : List S37} (h : PM w m nn L) {x : S37} (hx : wfP x) :
    (Instr.lookup 59 (.map (some m)) (pv x) true).run Tryz.prog w = .ok (.tuple #[.agg #[], .bool (L.any (eqP x))]) w := by
  obtain ⟨D, ho, hh⟩ := h
  obtain ⟨v, ps, hrun, hv⟩ := ho.look_ok kmap Tryz.underlying59 (Tryz.zeroValue60 _) (zd := .nil) (zp := []) rfl (kpt hx)
  rw [hh x hx, ru_inv hv] at hrun
  exact hrun
theorem PM.put {w : World} {m nn : Nat} {L : List S37} (h : PM w m nn L) (hn : nn < maxLen) {x : S37} (hx : wfP x) :
    ∃ w', (Instr.mapUpdate 59 (.map (some m)) (pv x) (.agg #[])).run Tryz.prog w = .ok () w' ∧ PM w' m (nn + 1) (L ++ [x]) ∧ w.grownBy w' (some m) := by
  obtain ⟨D, ho, hh⟩ := h
  obtain ⟨w', hrun, h1, h2⟩ := ho.update kmap Tryz.underlying59 hn (kpt hx) (d := .nil) (ps := []) (val := .agg #[]) rfl
  refine ⟨w', hrun, ⟨_, h1, fun y hy => ?_⟩, h2⟩
  rw [List.any_append]
  have hD : IsMap D := by obtain ⟨es, clock, _, _, _, rfl⟩ := ho; exact ⟨_, rfl⟩
  by_cases e : y = x
  · subst e
    have e2 : eqP y y = true := (eqP_iff y y).2 rfl
    rw [has_put_same hD (kmap.key (kpt hx))]
    simp [e2]
  · have e2 : eqP y x = false := by rw [← Bool.not_eq_true]; exact fun h => e ((eqP_iff y x).1 h)
    rw [has_put_other (fun h => e (pk_inj hy hx h)), hh y hy]
    simp [e2]
end Go.Proofs.YtldlenjfpjihdaaGreat.PS
end
section
namespace Go.Proofs.YtldlenjfpjihdaaGreat.PS
open Go Go.RowKit Go.Proofs Go.Maps Go.WideMaps
set_option linter.unusedVariables false
theorem keyInt_inv {P : Program} {d : Nat} {t : TypeId} {q : IntKind} (hu : P.underlying t = some (.int q)) {cs : List Value} {ls : List Lit} (h : P.keyLits (d + 1) t cs = some ls) : ∃ n, cs = [.int q n] ∧ (Lit.int q n).wf = true ∧ ls = [.int q n] := by
  unfold Program.keyLits at h
  rw [hu] at h
  match cs, h with
  | [.int q' n], h =>
    simp only at h
    split at h
    · rename_i hc
      obtain ⟨rfl, hw⟩ := hc
      exact ⟨n, rfl, hw, (Option.some.inj h).symm⟩
    · cases h
theorem keyStr_inv {P : Program} {d : Nat} {t : TypeId} (hu : P.underlying t = some .string) {cs : List Value} {ls : List Lit} (h : P.keyLits (d + 1) t cs = some ls) : ∃ s : ByteArray, cs = [.string s] ∧ s.size ≤ maxLen ∧ ls = [.string s.data.toList] := by
  unfold Program.keyLits at h
  rw [hu] at h
  match cs, h with
  | [.string s], h =>
    simp only at h
    split at h
    · rename_i hc
      exact ⟨s, rfl, hc, (Option.some.inj h).symm⟩
    · cases h
/-- A key that is a struct: its cells, and what they are told as_. -/
theorem keyOf_struct_inv {P : Program} {k : TypeId} {fs : Array Field} (hu : P.underlying k = some (.struct fs)) {v : Value} {kl : Lit} (h : keyOf P k v = some kl) :
    ∃ (cs : Array Value) (ls : List Lit), v = .agg cs ∧ cs.size = P.cellsOf k ∧ (fs.toList.mapM fun f => P.keyLits P.types.size f.type ((cs.toList.drop f.offset).take (P.cellsOf f.type))).map List.flatten = some ls ∧ kl = .string (keyBytes ls) := by
  unfold keyOf at h
  simp only [hu] at h
  split at h
  · rename_i hc
    rw [Bool.and_eq_true] at hc
    obtain ⟨_, hf⟩ := hc
    cases v <;> simp only [Value.formed, hu, Bool.false_eq_true] at hf
    case agg cs =>
      obtain ⟨ls, h1, h2⟩ := Option.map_eq_some_iff.1 h
      unfold Program.keyLits at h1
      simp only [hu] at h1
      split at h1
      · exact ⟨cs, ls, rfl, by simpa using hf, h1, h2.symm⟩
      · cases h1
  · cases h
set_option maxRecDepth 100000 in
theorem PPinv {v : Value} {kl : Lit} (h : keyOf Tryz.prog 37 v = some kl) : ∃ x : S37, v = pv x ∧ wfP x ∧ kl = pk x := by
  obtain ⟨cs, ls, rfl, hsz, h1, rfl⟩ := keyOf_struct_inv Tryz.underlying37 h
  obtain ⟨m, hm⟩ := msize
  rw [size37] at hsz
  obtain ⟨l⟩ := cs
  match l, hsz with
  | [c0, c1, c2], _ =>
    rw [hm] at h1
    simp only [List.mapM_cons, List.mapM_nil, size3, size9, Option.map_eq_map, Option.bind_eq_bind, List.drop_zero, List.take_succ_cons, List.take_zero, List.drop_succ_cons] at h1
    obtain ⟨ls', h2, rfl⟩ := Option.map_eq_some_iff.1 h1
    obtain ⟨a0, e0, h3⟩ := Option.bind_eq_some_iff.1 h2
    obtain ⟨rest, h4, p1⟩ := Option.bind_eq_some_iff.1 h3
    obtain ⟨a1, e1, h5⟩ := Option.bind_eq_some_iff.1 h4
    obtain ⟨rest2, h6, p2⟩ := Option.bind_eq_some_iff.1 h5
    obtain ⟨a2, e2, h7⟩ := Option.bind_eq_some_iff.1 h6
    clear h h1 h2 h3 h4 h5 h6
    obtain ⟨n0, g0, w0, rfl⟩ := keyInt_inv Tryz.underlying3 e0
    obtain ⟨n1, g1, w1, rfl⟩ := keyInt_inv Tryz.underlying3 e1
    obtain ⟨s2, g2, w2, rfl⟩ := keyStr_inv Tryz.underlying9 e2
    simp at g0 g1 g2 p1 p2 h7
    subst g0 g1 g2 h7 p2 p1
    exact ⟨⟨n0, n1, s2⟩, rfl, ⟨w0, w1, w2⟩, rfl⟩
end Go.Proofs.YtldlenjfpjihdaaGreat.PS
end
section
namespace Go.Proofs.YtldlenjfpjihdaaGreat.PS
open Go Go.RowKit Go.Proofs Go.Sort Go.Shelf Go.Proofs.YtldlenjfpjihdaaGreatW.PrintWords
set_option linter.unusedVariables false
set_option linter.unusedSimpArgs false
/-- The world with draws and new blocks, nothing else. -/
def Gr (w w' : World) : Prop := ∃ q os, w' = grow (w.drewN q) os
theorem Gr.refl (w : World) : Gr w w := ⟨0, #[], by rw [grow_empty]; rfl⟩
theorem Gr.drawn {w w' w2 : World} (h : Gr w w') (hd : Drawn0 w' w2) : Gr w w2 := by
  obtain ⟨q, os, rfl⟩ := h
  obtain ⟨n, rfl⟩ := hd.out
  exact ⟨q + n, os, by simp [grow, World.drewN, Nat.add_assoc]⟩
theorem Gr.drew {w w' : World} (h : Gr w w') : Gr w w'.drew := h.drawn ⟨⟨1, rfl⟩⟩
theorem Gr.alloc {w w' : World} (h : Gr w w') (o : Obj) : Gr w (w'.alloc o) := by
  obtain ⟨q, os, rfl⟩ := h
  exact ⟨q, os ++ #[o], by rw [alloc_eq_grow, grow_grow]⟩
theorem Gr.below {w w' : World} (h : Gr w w') : Below w.heap.size w w' := by
  obtain ⟨q, os, rfl⟩ := h
  refine ⟨rfl, rfl, rfl, by simp [grow, World.drewN], fun k hk => ?_⟩
  show (w.heap ++ os)[k]? = w.heap[k]?
  rw [Array.getElem?_append_left hk]
section
variable {α : Type} {enc : α → List Value} {C : Nat}
/-- A row in a block, from its head on: its cells, none frozen. -/
def RowG (enc : α → List Value) (C : Nat) (w : World) (g : Nat) (xs : List α) : Prop := ∀ (i : Nat) (x : α), xs[i]? = some x → ∀ (j : Nat) (u : Value), (enc x)[j]? = some u → w.cell? ⟨g, i * C + j, none⟩ = some u ∧ w.frozen? ⟨g, i * C + j, none⟩ = false
theorem RowG.same {w w' : World} {g : Nat} {xs : List α} (h : RowG enc C w g xs) (e : w'.heap[g]? = w.heap[g]?) : RowG enc C w' g xs := by
  intro i x hx j u hu
  have := h i x hx j u hu
  exact ⟨by simpa [World.cell?, e] using this.1, by simpa [World.frozen?, e] using this.2⟩
theorem flatMap_get (hk : ∀ x, (enc x).length = C) : ∀ {xs : List α} {i : Nat} {x : α}, xs[i]? = some x → ∀ {j : Nat} {u : Value}, (enc x)[j]? = some u → (xs.flatMap enc)[i * C + j]? = some u
  | [], i, x, h, _, _, _ => by simp at h
  | y :: r, 0, x, h, j, u, hu => by
    obtain rfl : y = x := by simpa using h
    have hj := (List.getElem?_eq_some_iff.1 hu).1
    rw [List.flatMap_cons, Nat.zero_mul, Nat.zero_add, List.getElem?_append_left hj]
    exact hu
  | y :: r, i + 1, x, h, j, u, hu => by
    have h' : r[i]? = some x := by simpa using h
    have e : (i + 1) * C + j - (enc y).length = i * C + j := by rw [hk y, Nat.succ_mul]; omega
    rw [List.flatMap_cons, List.getElem?_append_right (by rw [hk y, Nat.succ_mul]; omega), e]
    exact flatMap_get hk h' hu
/-- What a row of one's own is. -/
def OwnG (enc : α → List Value) (C K : Nat) (w : World) (base : Nat) (v : Value) (xs : List α) : Prop :=
  (v = .slice none 0 0 ∧ xs = []) ∨ ∃ g cap cur, v = .slice (some ⟨g, 0, none⟩) xs.length cap ∧ base ≤ g ∧ w.heap[g]? = some (.cells cur K (0, 0)) ∧ xs.length ≤ cap ∧ cap ≤ maxLen ∧ cur.size = cap * C ∧ RowG enc C w g xs
theorem OwnG.of_own (hk : ∀ x, (enc x).length = C) {K base : Nat} {w : World} {v : Value} {xs : List α} (h : w.ownsRow base K C v xs.length (xs.flatMap enc)) : OwnG enc C K w base v xs := by
  rcases h.2 with ⟨rfl, h0⟩ | ⟨g, cap, cur, rfl, hg, hh, hnc, hcm, hsz, htk⟩
  · exact .inl ⟨rfl, List.eq_nil_of_length_eq_zero h0⟩
  · refine .inr ⟨g, cap, cur, rfl, hg, hh, hnc, hcm, hsz, ?_⟩
    intro i x hx j u hu
    have hi := (List.getElem?_eq_some_iff.1 hx).1
    have e := flatMap_get hk hx hu
    have hlt := (List.getElem?_eq_some_iff.1 e).1
    rw [← htk, List.getElem?_take] at e
    split at e
    · have e2 : cur[i * C + j]? = some u := by rw [← Array.getElem?_toList]; exact e
      exact ⟨by simp [World.cell?, hh, e2], by simp [World.frozen?, hh]⟩
    · cases e
theorem RowG.holds [Inhabited α] (hk : ∀ x, (enc x).length = C) (hC : 0 < C) {w : World} {g : Nat} {xs : List α} (h : RowG enc C w g xs) : HoldsK enc C w g 0 xs.toArray := by
  intro j hj
  rw [size_flatK] at hj
  have hj' : j < xs.length * C := by simpa using hj
  rw [get_flatK _ _ _ _ hj]
  have hi : j / C < xs.length := by rw [Nat.div_lt_iff_lt_mul hC]; exact hj'
  have e1 : xs.toArray[j / C]! = xs[j / C] := by simp [hi]
  have h3 : j % C < (enc xs[j / C]).length := by rw [hk]; exact Nat.mod_lt _ hC
  have := h (j / C) _ (List.getElem?_eq_getElem hi) (j % C) _ (List.getElem?_eq_getElem h3)
  have hdm : j / C * C + j % C = 0 + j := by rw [Nat.zero_add, Nat.mul_comm]; exact Nat.div_add_mod j C
  rw [hdm] at this
  rw [e1, getElem!_pos (enc xs[j / C]) (j % C) h3]
  exact this
theorem RowG.of_holds [Inhabited α] (hk : ∀ x, (enc x).length = C) {w : World} {g : Nat} {d : Array α} (h : HoldsK enc C w g 0 d) : RowG enc C w g d.toList := by
  intro i x hx j u hu
  have hj : j < C := by have := (List.getElem?_eq_some_iff.1 hu).1; rwa [hk] at this
  have hi : i < d.size := by have := (List.getElem?_eq_some_iff.1 hx).1; simpa using this
  have := h.cell hi hj
  rw [Nat.zero_add] at this
  have e1 : d[i]! = x := by
    rw [getElem!_pos d i hi]
    have := (List.getElem?_eq_some_iff.1 hx).2
    simpa using this
  have h3 : j < (enc x).length := by rw [hk]; exact hj
  have e2 : (enc x)[j]! = u := by
    rw [getElem!_pos (enc x) j h3]
    exact (List.getElem?_eq_some_iff.1 hu).2
  rw [e1, e2] at this
  exact this
theorem sortG_below [Inhabited α] {w : World} {g B : Nat} (hg : B ≤ g) (hgw : g < w.heap.size) (m : Nat) (d : Array α) (os : Array Obj) : Below B w (sortWorldK enc C w g 0 m d os) := by
  refine ⟨rfl, rfl, rfl, size_sortWorldK_c enc C w g 0 m d os, fun k hk => ?_⟩
  show ((w.heap.modify g _) ++ os)[k]? = w.heap[k]?
  rw [Array.getElem?_append_left (by simp; omega), Array.getElem?_modify, if_neg (by omega)]
theorem sortG_block [Inhabited α] {w : World} {g K : Nat} {cur : Array Value} (hh : w.heap[g]? = some (.cells cur K (0, 0))) (m : Nat) (d : Array α) (os : Array Obj) : ∃ cur', (sortWorldK enc C w g 0 m d os).heap[g]? = some (.cells cur' K (0, 0)) ∧ cur'.size = cur.size := by
  have hlt := (Array.getElem?_eq_some_iff.1 hh).1
  have e0 : (sortWorldK enc C w g 0 m d os).heap[g]? = some (Obj.cells (putCells id 0 (flatK enc C d) cur) K (0, 0)) := by
    show ((w.heap.modify g _) ++ os)[g]? = _
    rw [Array.getElem?_append_left (by simpa using hlt), Array.getElem?_modify, if_pos rfl, hh]
    rfl
  exact ⟨_, e0, by simp [putCells]⟩
/-- slices.SortFunc over a row of one's own. -/
theorem sortG {P : Program} {ρ : Ren} (L : SlLaysF0.n6 P ρ) [Inhabited α] (hk : ∀ x, (enc x).length = C) (hC : 0 < C) (aE : ∀ w, (isAgg (ρ.t 24)).run P w = .ok true w) (zE : ∀ w, (Go.sizeOf (ρ.t 24)).run P w = .ok C w)
    (h1 : ∀ x, ∀ v ∈ enc x, v.oneCell' = true) (cf : α → α → Int) (hO : SWO (ltOf cf)) (gc : Nat) (eg : ∀ args w, (callFunc gc args).run P w = .ok (.enter gc args) w)
    (hcmp : ∀ (W : World) (x y : α), Calls P gc #[.agg (enc x).toArray, .agg (enc y).toArray] W fun e w' => e = .returned (.int .i64 (cf x y)) ∧ Gr W w')
    {K base : Nat} {v : Value} {xs : List α} {w : World} (h : OwnG enc C K w base v xs) (hl : xs.length < 4611686018427387904) :
    Calls P (ρ.f 6) #[v, .func (.func gc) #[] #[]] w fun e w' => e = .returned (.tuple #[]) ∧ ∃ ys, ys.Perm xs ∧ ys.Pairwise (fun a b => ltOf cf b a = false) ∧ OwnG enc C K w' base v ys ∧ Below base w w' := by
  rcases h with ⟨rfl, rfl⟩ | ⟨g, cap, cur, rfl, hg, hh, hnc, hcm, hsz, hR⟩
  · exact (AnyF.slices_SortFunc_none L none 0 _ w).mono fun e w' h => ⟨h.1, [], List.Perm.refl _, List.Pairwise.nil, .inl ⟨rfl, rfl⟩, by rw [h.2]; exact Below.refl _ _⟩
  · have hgw := (Array.getElem?_eq_some_iff.1 hh).1
    have hH := hR.holds hk hC
    have h := AnyQ.slices_SortFunc L C aE zE enc hk h1 cf hO gc #[] g 0 cap xs.toArray w eg (fun m os dk hs x y => hcmp _ x y) hH hgw (by simpa using hl)
    have e0 : xs.toArray.size = xs.length := by simp
    rw [e0] at h
    refine h.mono ?_
    rintro e w' ⟨rfl, d', n, os, hperm, hsort, rfl⟩
    have hs2 : d'.size = xs.length := by have := hperm.1; simpa using this
    have hp : d'.toList.Perm xs := by
      have := hperm.2.2
      have e3 : d'.extract 0 xs.length = d' := by rw [← hs2]; simp
      have e4 : xs.toArray.extract 0 xs.length = xs.toArray := by rw [← e0]; simp
      rw [e3, e4] at this
      simpa using this
    obtain ⟨cur', hh', hsz'⟩ := sortG_block (enc := enc) (C := C) hh n d' os
    refine ⟨rfl, d'.toList, hp, ?_, .inr ⟨g, cap, cur', by rw [hp.length_eq], hg, hh', by rw [hp.length_eq]; exact hnc, hcm, by rw [hsz', hsz], RowG.of_holds hk (holdsK_sortWorldK_c enc C w g 0 _ d' n os hH hgw (by rw [hs2, e0]))⟩, sortG_below hg hgw n d' os⟩
    rw [List.pairwise_iff_getElem]
    intro i j hi hj hij
    have hi' : i < d'.size := by simpa using hi
    have hj' : j < d'.size := by simpa using hj
    have := hsort i j (Nat.zero_le _) hij (by rw [← hs2]; exact hj')
    rw [getElem!_pos d' i hi', getElem!_pos d' j hj'] at this
    simpa using this
end
end Go.Proofs.YtldlenjfpjihdaaGreat.PS
end
section
namespace Go.Proofs.YtldlenjfpjihdaaGreat.PS
open Go Go.RowKit Go.Proofs Go.Maps Go.Proofs.YtldlenjfpjihdaaGreatW.PrintWords Go.Proofs.YtldlenjfpjihdaaGreatW.PrintLast Go.Proofs.YtldlenjfpjihdaaGreatW.PrintMore
set_option linter.unusedVariables false
set_option linter.unusedSimpArgs false
theorem cell_of {w : World} {b t : Nat} {cs : Array Value} {z : Nat × Nat} (h : w.heap[b]? = some (.cells cs t z)) (i : Nat) : w.cell? ⟨b, i, none⟩ = cs[i]? := by
  simp [World.cell?, h]
theorem frozen_of {w : World} {b t : Nat} {cs : Array Value} (h : w.heap[b]? = some (.cells cs t)) (i : Nat) : w.frozen? ⟨b, i, none⟩ = false := by
  simp [World.frozen?, h]
theorem lt_of {w : World} {b : Nat} {o : Obj} (h : w.heap[b]? = some o) : b < w.heap.size := (Array.getElem?_eq_some_iff.1 h).1
theorem heap_new (w : World) (o : Obj) : (w.alloc o).heap[w.heap.size]? = some o := by
  show (w.heap.push o)[w.heap.size]? = some o
  simp
theorem heap_old {w : World} {k : Nat} {o o' : Obj} (h : w.heap[k]? = some o) : (w.alloc o').heap[k]? = some o := by
  show (w.heap.push o')[k]? = some o
  rw [Array.getElem?_push, if_neg (fun e => by have := lt_of h; omega)]
  exact h
theorem size_new (w : World) (o : Obj) : (w.alloc o).heap.size = w.heap.size + 1 := Array.size_push o
theorem setCell_heap {w : World} {b i t : Nat} {cs : Array Value} (h : w.heap[b]? = some (.cells cs t)) (v : Value) : (w.setCell ⟨b, i, none⟩ v).heap[b]? = some (.cells (cs.setIfInBounds i v) t) :=
  Go.Lib.heap_setCell_same h v
theorem below_step {w0 W W' : World} (hb : Below w0.heap.size w0 W) (hB : Below W.heap.size W W') : Below w0.heap.size w0 W' := Below.trans hb (hB.mono hb.size)
theorem results_ct {P : Program} {fn : Func} {p q : Tmp} {ty : TypeId} (h : fn.results = #[.cell p ty, .tmp q]) (tmps : Array Value) (w : World) (g : Nat) (t : TypeId) (cs : Array Value) (fr : Nat × Nat) (d : TypeDesc)
    (hp : tmps.getD p undef = .pointer (some ⟨g, 0, none⟩)) (hg : w.heap[g]? = some (.cells cs t fr))
    (hu : P.underlying ty = some d) (hd : (match d with | .struct _ | .array _ _ => true | _ => false) = true) (hi : (P.info? ty).map (·.size) = some cs.size) :
    (results fn tmps).run P w = .ok (.tuple #[.agg cs, tmps.getD q undef]) w := by
  have hp' : tmps[p]?.getD undef = .pointer (some ⟨g, 0, none⟩) := by simpa using hp
  simp [results, h, hp', asAddr, run_loadVar_row w g t ty cs fr d hg hu hd hi]
/-- A point's block. -/
def pO (x : S37) : Obj := .cells #[.int .i64 x.f0, .int .i64 x.f1, .string x.f2] 37
def zP : S37 := ⟨0, 0, ⟨#[]⟩⟩
theorem before_any (a b : S37) (w : World) : Calls Tryz.prog 64 #[pv a, pv b] w fun e w' => e = .returned (.int .i64 (cmpP a b)) ∧ Below w.heap.size w w' := by
  obtain ⟨k, hk⟩ := (before_ev a b).ex
  exact sets_before.calls k _ _ _ _ _ _ _ w hk
def fstep (p : S37 → Bool) (acc : Option S37) (x : S37) : Option S37 := if p x = true then lstep acc x else acc
theorem fstep_take {p : S37 → Bool} {xs : List S37} {k : Nat} {y : S37} (hy : xs[k]? = some y) : (xs.take (k + 1)).foldl (fstep p) none = fstep p ((xs.take k).foldl (fstep p) none) y := by
  rw [take_snoc hy, List.foldl_append]; rfl
set_option maxHeartbeats 8000000 in
set_option maxRecDepth 100000 in
theorem least_any (p : S37 → Bool) (g : Nat) (lb : Array Value) (eg : ∀ args w, (callFunc g args).run Tryz.prog w = .ok (.enter g args) w) (A : Option Addr) (xs : List S37) (c : Nat) (w : World) (hC : Kd.C k37 w A xs.length xs)
    (hp : ∀ (W : World) (x : S37), x ∈ xs → Below w.heap.size w W → Calls Tryz.prog g (#[pv x] ++ lb) W fun e w' => e = .returned (.bool (p x)) ∧ Below W.heap.size W w') :
    Calls Tryz.prog 37 #[.slice A xs.length c, .func (.func g) #[] lb] w fun e w' => e = .returned (.tuple #[pv ((leastS (xs.filter p)).getD zP), .bool (leastS (xs.filter p)).isSome]) ∧ Below w.heap.size w w' := by
  have HC := Aside0.mk hC
  have hmax : xs.length ≤ 9223372036854775807 := hC.2.1
  have hfold : xs.foldl (fstep p) none = leastS (xs.filter p) := foldl_filter p xs none
  have HFo := Aside0.mk hfold
  have HPp := Aside0.mk hp
  clear hC hfold hp
  go_enter Tryz.func37, Tryz.ntmps37
  go_wp2
  go_loopg [7, 12] xs.length (fun gg s7 s12 wr => ∃ (k : Nat) (acc : Option S37), s7 = .bool acc.isSome ∧ s12 = .int .i64 k ∧ k ≤ xs.length ∧ Aside0 (xs.length - k ≤ gg) ∧ Aside0 (acc = (xs.take k).foldl (fstep p) none) ∧ Aside0 (wr.heap[w.heap.size + 1]? = some (pO (acc.getD zP))) ∧ Aside0 (wr.heap[w.heap.size]? = some (pO zP)) ∧ Aside0 (Below w.heap.size w wr))
  case atStart => exact ⟨0, none, rfl, rfl, Nat.zero_le _, ⟨by omega⟩, ⟨rfl⟩, ⟨by have := heap_new (w.alloc (pO zP)) (pO zP); rw [size_new] at this; exact this⟩, ⟨heap_old (heap_new w (pO zP))⟩, ⟨below_alloc (below_alloc (Below.refl _ _) _) _⟩⟩
  case round =>
    obtain ⟨k, acc, rfl, rfl, hk, HM, HA, HO, HZ, HB⟩ := hrel
    by_cases hlt : k < xs.length
    · have hltz : (k : Int) < (xs.length : Int) := by omega
      obtain ⟨ad, ea, a0, a1, a2⟩ := at_T37 HC.out (k : Int) (by omega) hltz
      subst ea
      obtain ⟨y, hy⟩ := ex_get hlt
      rw [rd37 hy] at a0 a1 a2
      simp only [Int.toNat_natCast] at a0 a1 a2
      replace a0 := (HB.out.cell (World.block_lt_of_cell? _ _ a0)).trans a0
      replace a1 := (HB.out.cell (World.block_lt_of_cell? _ _ a1)).trans a1
      replace a2 := (HB.out.cell (World.block_lt_of_cell? _ _ a2)).trans a2
      have HY := Aside0.mk hy
      have HFS := Aside0.mk (fstep_take (p := p) hy)
      have HMem := Aside0.mk (List.mem_of_getElem? hy)
      have hz0 := lt_of HO.out
      have n1 : (w.heap.size + 1 = wr.heap.size) = False := eq_false (by omega)
      have n2 : (wr.heap.size = w.heap.size + 1) = False := eq_false (by omega)
      have HN := Aside0.mk (heap_new wr (pO y))
      have HO1 := Aside0.mk (heap_old (o' := pO y) HO.out)
      have HZ1 := Aside0.mk (heap_old (o' := pO y) HZ.out)
      have HB1 := Aside0.mk (below_alloc HB.out (pO y))
      clear hy
      cases hacc : acc with
      | none =>
        subst hacc
        cases hq : p y with
        | true =>
          have HPq := Aside0.mk (fun W h => by have := HPp.out W y HMem.out h; rwa [hq] at this)
          have HS := Aside0.mk (show fstep p none y = some y by unfold fstep lstep; simp [hq])
          clear HPp hq
          go_wp2_with (first | (go_at_fn g; refine (HPq.out _ HB1.out).mono ?_; rintro e w3 ⟨rfl, hb⟩; have HN3 := Aside0.mk ((hb.block _ (lt_of HN.out)).trans HN.out); have HO3 := Aside0.mk ((hb.block _ (lt_of HO1.out)).trans HO1.out); have HZ3 := Aside0.mk ((hb.block _ (lt_of HZ1.out)).trans HZ1.out); have HB3 := Aside0.mk (below_step HB1.out hb); clear hb; have k0 : w3.cell? ⟨wr.heap.size, 0, none⟩ = some (.int .i64 y.f0) := cell_of HN3.out 0; have k1 : w3.cell? ⟨wr.heap.size, 1, none⟩ = some (.int .i64 y.f1) := cell_of HN3.out 1; have k2 : w3.cell? ⟨wr.heap.size, 2, none⟩ = some (.string y.f2) := cell_of HN3.out 2; have k3 : w3.frozen? ⟨w.heap.size + 1, 0, none⟩ = false := frozen_of HO3.out 0; have k4 : w3.frozen? ⟨w.heap.size + 1, 1, none⟩ = false := frozen_of HO3.out 1; have k5 : w3.frozen? ⟨w.heap.size + 1, 2, none⟩ = false := frozen_of HO3.out 2; have k6 : w3.cell? ⟨w.heap.size + 1, 0, none⟩ = some (.int .i64 (zP).f0) := cell_of HO3.out 0; have k7 : w3.cell? ⟨w.heap.size + 1, 1, none⟩ = some (.int .i64 (zP).f1) := cell_of HO3.out 1; have k8 : w3.cell? ⟨w.heap.size + 1, 2, none⟩ = some (.string (zP).f2) := cell_of HO3.out 2))
          go_roundg (xs.length - (k + 1))
          case measure => have := HM.out; omega
          case rel => exact ⟨k + 1, some y, rfl, by go_num, hlt, ⟨Nat.le_refl _⟩, ⟨by rw [HFS.out, ← HA.out]; exact HS.out.symm⟩, ⟨setCell_heap (setCell_heap (setCell_heap HO3.out _) _) _⟩, ⟨(Below.heap_setCell _ _ _ _ (show w.heap.size ≠ w.heap.size + 1 by omega)).trans ((Below.heap_setCell _ _ _ _ (show w.heap.size ≠ w.heap.size + 1 by omega)).trans ((Below.heap_setCell _ _ _ _ (show w.heap.size ≠ w.heap.size + 1 by omega)).trans HZ3.out))⟩, ⟨((HB3.out.setCell (p := ⟨w.heap.size + 1, 0, none⟩) (Nat.le_succ _) _).setCell (p := ⟨w.heap.size + 1, 1, none⟩) (Nat.le_succ _) _).setCell (p := ⟨w.heap.size + 1, 2, none⟩) (Nat.le_succ _) _⟩⟩
        | false =>
          have HPq := Aside0.mk (fun W h => by have := HPp.out W y HMem.out h; rwa [hq] at this)
          have HS := Aside0.mk (show fstep p none y = none by unfold fstep lstep; simp [hq])
          clear HPp hq
          go_wp2_with (first | (go_at_fn g; refine (HPq.out _ HB1.out).mono ?_; rintro e w3 ⟨rfl, hb⟩; have HN3 := Aside0.mk ((hb.block _ (lt_of HN.out)).trans HN.out); have HO3 := Aside0.mk ((hb.block _ (lt_of HO1.out)).trans HO1.out); have HZ3 := Aside0.mk ((hb.block _ (lt_of HZ1.out)).trans HZ1.out); have HB3 := Aside0.mk (below_step HB1.out hb); clear hb; have k0 : w3.cell? ⟨wr.heap.size, 0, none⟩ = some (.int .i64 y.f0) := cell_of HN3.out 0; have k1 : w3.cell? ⟨wr.heap.size, 1, none⟩ = some (.int .i64 y.f1) := cell_of HN3.out 1; have k2 : w3.cell? ⟨wr.heap.size, 2, none⟩ = some (.string y.f2) := cell_of HN3.out 2; have k3 : w3.frozen? ⟨w.heap.size + 1, 0, none⟩ = false := frozen_of HO3.out 0; have k4 : w3.frozen? ⟨w.heap.size + 1, 1, none⟩ = false := frozen_of HO3.out 1; have k5 : w3.frozen? ⟨w.heap.size + 1, 2, none⟩ = false := frozen_of HO3.out 2; have k6 : w3.cell? ⟨w.heap.size + 1, 0, none⟩ = some (.int .i64 (zP).f0) := cell_of HO3.out 0; have k7 : w3.cell? ⟨w.heap.size + 1, 1, none⟩ = some (.int .i64 (zP).f1) := cell_of HO3.out 1; have k8 : w3.cell? ⟨w.heap.size + 1, 2, none⟩ = some (.string (zP).f2) := cell_of HO3.out 2))
          go_roundg (xs.length - (k + 1))
          case measure => have := HM.out; omega
          case rel => exact ⟨k + 1, none, rfl, by go_num, hlt, ⟨Nat.le_refl _⟩, ⟨by rw [HFS.out, ← HA.out]; exact HS.out.symm⟩, ⟨HO3.out⟩, ⟨HZ3.out⟩, ⟨HB3.out⟩⟩
      | some q =>
        subst hacc
        have r0 : ∀ W : World, W.heap[w.heap.size + 1]? = some (pO q) → W.cell? ⟨w.heap.size + 1, 0, none⟩ = some (.int .i64 q.f0) ∧ W.cell? ⟨w.heap.size + 1, 1, none⟩ = some (.int .i64 q.f1) ∧ W.cell? ⟨w.heap.size + 1, 2, none⟩ = some (.string q.f2) := fun W h => ⟨cell_of h 0, cell_of h 1, cell_of h 2⟩
        obtain ⟨q0, q1, q2⟩ := r0 _ HO1.out
        unfold pO at q0 q1 q2
        clear r0
        by_cases hc : ltP y q
        · have hcz : cmpP y q < 0 := (cmpP_lt y q).2 hc
          cases hq : p y with
          | true =>
            have HPq := Aside0.mk (fun W h => by have := HPp.out W y HMem.out h; rwa [hq] at this)
            have HS := Aside0.mk (show fstep p (some q) y = some y by unfold fstep lstep; simp [hq, hc])
            clear HPp hq hc
            go_wp2_with (first | (go_at_call 64; refine (before_any y q _).mono ?_; rintro e w2 ⟨rfl, hb⟩; have HN2 := Aside0.mk ((hb.block _ (lt_of HN.out)).trans HN.out); have HO2 := Aside0.mk ((hb.block _ (lt_of HO1.out)).trans HO1.out); have HZ2 := Aside0.mk ((hb.block _ (lt_of HZ1.out)).trans HZ1.out); have HB2 := Aside0.mk (below_step HB1.out hb); clear hb; have k0 : w2.cell? ⟨wr.heap.size, 0, none⟩ = some (.int .i64 y.f0) := cell_of HN2.out 0; have k1 : w2.cell? ⟨wr.heap.size, 1, none⟩ = some (.int .i64 y.f1) := cell_of HN2.out 1; have k2 : w2.cell? ⟨wr.heap.size, 2, none⟩ = some (.string y.f2) := cell_of HN2.out 2; have k3 : w2.frozen? ⟨w.heap.size + 1, 0, none⟩ = false := frozen_of HO2.out 0; have k4 : w2.frozen? ⟨w.heap.size + 1, 1, none⟩ = false := frozen_of HO2.out 1; have k5 : w2.frozen? ⟨w.heap.size + 1, 2, none⟩ = false := frozen_of HO2.out 2; have k6 : w2.cell? ⟨w.heap.size + 1, 0, none⟩ = some (.int .i64 q.f0) := cell_of HO2.out 0; have k7 : w2.cell? ⟨w.heap.size + 1, 1, none⟩ = some (.int .i64 q.f1) := cell_of HO2.out 1; have k8 : w2.cell? ⟨w.heap.size + 1, 2, none⟩ = some (.string q.f2) := cell_of HO2.out 2) | (go_at_fn g; refine (HPq.out _ HB2.out).mono ?_; rintro e w3 ⟨rfl, hb⟩; have HN3 := Aside0.mk ((hb.block _ (lt_of HN2.out)).trans HN2.out); have HO3 := Aside0.mk ((hb.block _ (lt_of HO2.out)).trans HO2.out); have HZ3 := Aside0.mk ((hb.block _ (lt_of HZ2.out)).trans HZ2.out); have HB3 := Aside0.mk (below_step HB2.out hb); clear hb; have k0 : w3.cell? ⟨wr.heap.size, 0, none⟩ = some (.int .i64 y.f0) := cell_of HN3.out 0; have k1 : w3.cell? ⟨wr.heap.size, 1, none⟩ = some (.int .i64 y.f1) := cell_of HN3.out 1; have k2 : w3.cell? ⟨wr.heap.size, 2, none⟩ = some (.string y.f2) := cell_of HN3.out 2; have k3 : w3.frozen? ⟨w.heap.size + 1, 0, none⟩ = false := frozen_of HO3.out 0; have k4 : w3.frozen? ⟨w.heap.size + 1, 1, none⟩ = false := frozen_of HO3.out 1; have k5 : w3.frozen? ⟨w.heap.size + 1, 2, none⟩ = false := frozen_of HO3.out 2; have k6 : w3.cell? ⟨w.heap.size + 1, 0, none⟩ = some (.int .i64 q.f0) := cell_of HO3.out 0; have k7 : w3.cell? ⟨w.heap.size + 1, 1, none⟩ = some (.int .i64 q.f1) := cell_of HO3.out 1; have k8 : w3.cell? ⟨w.heap.size + 1, 2, none⟩ = some (.string q.f2) := cell_of HO3.out 2))
            go_roundg (xs.length - (k + 1))
            case measure => have := HM.out; omega
            case rel => exact ⟨k + 1, some y, rfl, by go_num, hlt, ⟨Nat.le_refl _⟩, ⟨by rw [HFS.out, ← HA.out]; exact HS.out.symm⟩, ⟨setCell_heap (setCell_heap (setCell_heap HO3.out _) _) _⟩, ⟨(Below.heap_setCell _ _ _ _ (show w.heap.size ≠ w.heap.size + 1 by omega)).trans ((Below.heap_setCell _ _ _ _ (show w.heap.size ≠ w.heap.size + 1 by omega)).trans ((Below.heap_setCell _ _ _ _ (show w.heap.size ≠ w.heap.size + 1 by omega)).trans HZ3.out))⟩, ⟨((HB3.out.setCell (p := ⟨w.heap.size + 1, 0, none⟩) (Nat.le_succ _) _).setCell (p := ⟨w.heap.size + 1, 1, none⟩) (Nat.le_succ _) _).setCell (p := ⟨w.heap.size + 1, 2, none⟩) (Nat.le_succ _) _⟩⟩
          | false =>
            have HPq := Aside0.mk (fun W h => by have := HPp.out W y HMem.out h; rwa [hq] at this)
            have HS := Aside0.mk (show fstep p (some q) y = some q by unfold fstep lstep; simp [hq, hc])
            clear HPp hq hc
            go_wp2_with (first | (go_at_call 64; refine (before_any y q _).mono ?_; rintro e w2 ⟨rfl, hb⟩; have HN2 := Aside0.mk ((hb.block _ (lt_of HN.out)).trans HN.out); have HO2 := Aside0.mk ((hb.block _ (lt_of HO1.out)).trans HO1.out); have HZ2 := Aside0.mk ((hb.block _ (lt_of HZ1.out)).trans HZ1.out); have HB2 := Aside0.mk (below_step HB1.out hb); clear hb; have k0 : w2.cell? ⟨wr.heap.size, 0, none⟩ = some (.int .i64 y.f0) := cell_of HN2.out 0; have k1 : w2.cell? ⟨wr.heap.size, 1, none⟩ = some (.int .i64 y.f1) := cell_of HN2.out 1; have k2 : w2.cell? ⟨wr.heap.size, 2, none⟩ = some (.string y.f2) := cell_of HN2.out 2; have k3 : w2.frozen? ⟨w.heap.size + 1, 0, none⟩ = false := frozen_of HO2.out 0; have k4 : w2.frozen? ⟨w.heap.size + 1, 1, none⟩ = false := frozen_of HO2.out 1; have k5 : w2.frozen? ⟨w.heap.size + 1, 2, none⟩ = false := frozen_of HO2.out 2; have k6 : w2.cell? ⟨w.heap.size + 1, 0, none⟩ = some (.int .i64 q.f0) := cell_of HO2.out 0; have k7 : w2.cell? ⟨w.heap.size + 1, 1, none⟩ = some (.int .i64 q.f1) := cell_of HO2.out 1; have k8 : w2.cell? ⟨w.heap.size + 1, 2, none⟩ = some (.string q.f2) := cell_of HO2.out 2) | (go_at_fn g; refine (HPq.out _ HB2.out).mono ?_; rintro e w3 ⟨rfl, hb⟩; have HN3 := Aside0.mk ((hb.block _ (lt_of HN2.out)).trans HN2.out); have HO3 := Aside0.mk ((hb.block _ (lt_of HO2.out)).trans HO2.out); have HZ3 := Aside0.mk ((hb.block _ (lt_of HZ2.out)).trans HZ2.out); have HB3 := Aside0.mk (below_step HB2.out hb); clear hb; have k0 : w3.cell? ⟨wr.heap.size, 0, none⟩ = some (.int .i64 y.f0) := cell_of HN3.out 0; have k1 : w3.cell? ⟨wr.heap.size, 1, none⟩ = some (.int .i64 y.f1) := cell_of HN3.out 1; have k2 : w3.cell? ⟨wr.heap.size, 2, none⟩ = some (.string y.f2) := cell_of HN3.out 2; have k3 : w3.frozen? ⟨w.heap.size + 1, 0, none⟩ = false := frozen_of HO3.out 0; have k4 : w3.frozen? ⟨w.heap.size + 1, 1, none⟩ = false := frozen_of HO3.out 1; have k5 : w3.frozen? ⟨w.heap.size + 1, 2, none⟩ = false := frozen_of HO3.out 2; have k6 : w3.cell? ⟨w.heap.size + 1, 0, none⟩ = some (.int .i64 q.f0) := cell_of HO3.out 0; have k7 : w3.cell? ⟨w.heap.size + 1, 1, none⟩ = some (.int .i64 q.f1) := cell_of HO3.out 1; have k8 : w3.cell? ⟨w.heap.size + 1, 2, none⟩ = some (.string q.f2) := cell_of HO3.out 2))
            go_roundg (xs.length - (k + 1))
            case measure => have := HM.out; omega
            case rel => exact ⟨k + 1, some q, rfl, by go_num, hlt, ⟨Nat.le_refl _⟩, ⟨by rw [HFS.out, ← HA.out]; exact HS.out.symm⟩, ⟨HO3.out⟩, ⟨HZ3.out⟩, ⟨HB3.out⟩⟩
        · have hcz : ¬ cmpP y q < 0 := fun h => hc ((cmpP_lt y q).1 h)
          have HS := Aside0.mk (show fstep p (some q) y = some q by unfold fstep lstep; simp [hc])
          clear HPp hc
          go_wp2_with (first | (go_at_call 64; refine (before_any y q _).mono ?_; rintro e w2 ⟨rfl, hb⟩; have HN2 := Aside0.mk ((hb.block _ (lt_of HN.out)).trans HN.out); have HO2 := Aside0.mk ((hb.block _ (lt_of HO1.out)).trans HO1.out); have HZ2 := Aside0.mk ((hb.block _ (lt_of HZ1.out)).trans HZ1.out); have HB2 := Aside0.mk (below_step HB1.out hb); clear hb; have k0 : w2.cell? ⟨wr.heap.size, 0, none⟩ = some (.int .i64 y.f0) := cell_of HN2.out 0; have k1 : w2.cell? ⟨wr.heap.size, 1, none⟩ = some (.int .i64 y.f1) := cell_of HN2.out 1; have k2 : w2.cell? ⟨wr.heap.size, 2, none⟩ = some (.string y.f2) := cell_of HN2.out 2; have k3 : w2.frozen? ⟨w.heap.size + 1, 0, none⟩ = false := frozen_of HO2.out 0; have k4 : w2.frozen? ⟨w.heap.size + 1, 1, none⟩ = false := frozen_of HO2.out 1; have k5 : w2.frozen? ⟨w.heap.size + 1, 2, none⟩ = false := frozen_of HO2.out 2; have k6 : w2.cell? ⟨w.heap.size + 1, 0, none⟩ = some (.int .i64 q.f0) := cell_of HO2.out 0; have k7 : w2.cell? ⟨w.heap.size + 1, 1, none⟩ = some (.int .i64 q.f1) := cell_of HO2.out 1; have k8 : w2.cell? ⟨w.heap.size + 1, 2, none⟩ = some (.string q.f2) := cell_of HO2.out 2))
          go_roundg (xs.length - (k + 1))
          case measure => have := HM.out; omega
          case rel => exact ⟨k + 1, some q, rfl, by go_num, hlt, ⟨Nat.le_refl _⟩, ⟨by rw [HFS.out, ← HA.out]; exact HS.out.symm⟩, ⟨HO2.out⟩, ⟨HZ2.out⟩, ⟨HB2.out⟩⟩
    · obtain rfl : k = xs.length := by omega
      have hltz : ¬ (xs.length : Int) < (xs.length : Int) := by omega
      have hacc : acc = leastS (xs.filter p) := by rw [HA.out, List.take_length]; exact HFo.out
      have hz0 := lt_of HO.out
      have n1 : (w.heap.size + 1 = w.heap.size) = False := eq_false (by omega)
      have n2 : (w.heap.size = w.heap.size + 1) = False := eq_false (by omega)
      have m0 : wr.cell? ⟨w.heap.size + 1, 0, none⟩ = some (.int .i64 (acc.getD zP).f0) := cell_of HO.out 0
      have m1 : wr.cell? ⟨w.heap.size + 1, 1, none⟩ = some (.int .i64 (acc.getD zP).f1) := cell_of HO.out 1
      have m2 : wr.cell? ⟨w.heap.size + 1, 2, none⟩ = some (.string (acc.getD zP).f2) := cell_of HO.out 2
      have k3 : wr.frozen? ⟨w.heap.size, 0, none⟩ = false := frozen_of HZ.out 0
      have k4 : wr.frozen? ⟨w.heap.size, 1, none⟩ = false := frozen_of HZ.out 1
      have k5 : wr.frozen? ⟨w.heap.size, 2, none⟩ = false := frozen_of HZ.out 2
      have j0 : wr.cell? ⟨w.heap.size, 0, none⟩ = some (.int .i64 0) := cell_of HZ.out 0
      have j1 : wr.cell? ⟨w.heap.size, 1, none⟩ = some (.int .i64 0) := cell_of HZ.out 1
      have j2 : wr.cell? ⟨w.heap.size, 2, none⟩ = some (.string ⟨#[]⟩) := cell_of HZ.out 2
      go_wp2
      subst hacc
      refine bodyPost_ret (results_ct rfl _ _ w.heap.size 37 #[.int .i64 ((leastS (xs.filter p)).getD zP).f0, .int .i64 ((leastS (xs.filter p)).getD zP).f1, .string ((leastS (xs.filter p)).getD zP).f2] (0, 0) _ rfl (setCell_heap (setCell_heap (setCell_heap HZ.out _) _) _) Tryz.underlying37 rfl (by kernel_rfl)) rfl ?_
      exact ⟨rfl, ((HB.out.setCell (p := ⟨w.heap.size, 0, none⟩) (Nat.le_refl _) _).setCell (p := ⟨w.heap.size, 1, none⟩) (Nat.le_refl _) _).setCell (p := ⟨w.heap.size, 2, none⟩) (Nat.le_refl _) _⟩
def idxF {α : Type} (p : α → Bool) (xs : List α) : Int := if xs.any p then (xs.findIdx p : Int) else -1
theorem idxF_nonneg {α : Type} (p : α → Bool) (xs : List α) : decide (idxF p xs ≥ 0) = xs.any p := by
  unfold idxF; cases h : xs.any p <;> simp
theorem any_take {α : Type} {p : α → Bool} {xs : List α} {k : Nat} {y : α} (hy : xs[k]? = some y) (h : ∀ x ∈ xs.take k, p x = false) (hp : p y = true) : idxF p xs = (k : Int) := by
  have hk : k < xs.length := (List.getElem?_eq_some_iff.1 hy).1
  have hyk : xs[k] = y := (List.getElem?_eq_some_iff.1 hy).2
  unfold idxF
  rw [if_pos (List.any_eq_true.2 ⟨y, List.mem_of_getElem? hy, hp⟩)]
  congr 1
  rw [List.findIdx_eq hk]
  refine ⟨by rw [hyk]; exact hp, fun j hj => ?_⟩
  have := h xs[j] (List.mem_take_iff_getElem.2 ⟨j, by omega, rfl⟩)
  simpa using this
theorem any_none {α : Type} {p : α → Bool} {xs : List α} (h : ∀ x ∈ xs.take xs.length, p x = false) : idxF p xs = -1 := by
  unfold idxF
  rw [if_neg]
  rw [List.any_eq_true]
  rintro ⟨x, hx, hp⟩
  rw [h x (by simpa using hx)] at hp
  cases hp
theorem take_step {α : Type} {p : α → Bool} {xs : List α} {k : Nat} {y : α} (hy : xs[k]? = some y) (h : ∀ x ∈ xs.take k, p x = false) (hp : p y = false) : ∀ x ∈ xs.take (k + 1), p x = false := by
  intro x hx
  rw [List.take_add_one, hy] at hx
  rcases List.mem_append.1 hx with h1 | h1
  · exact h x h1
  · simp at h1; subst h1; exact hp
def sv (s : S46) : Value := .agg #[.int .i64 s.f0, .int .i64 s.f1, .string s.f2.f0, .string s.f2.f1, .bool s.f2.f2]
set_option maxHeartbeats 4000000 in
set_option maxRecDepth 100000 in
theorem idxf_span (p : S46 → Bool) (g : Nat) (lb : Array Value) (eg : ∀ args w, (callFunc g args).run Tryz.prog w = .ok (.enter g args) w) (A : Option Addr) (xs : List S46) (c : Nat) (w : World) (hC : Kd.C k46 w A xs.length xs)
    (hp : ∀ (W : World) (x : S46), x ∈ xs → Below w.heap.size w W → Calls Tryz.prog g (#[sv x] ++ lb) W fun e w' => e = .returned (.bool (p x)) ∧ Below W.heap.size W w') :
    Calls Tryz.prog 60 #[.slice A xs.length c, .func (.func g) #[] lb] w fun e w' => e = .returned (.int .i64 (idxF p xs)) ∧ Below w.heap.size w w' := by
  have HC := Aside0.mk hC
  have hmax : xs.length ≤ 9223372036854775807 := hC.2.1
  clear hC
  go_enter Tryz.func60, Tryz.ntmps60
  go_wp2
  go_loopg [5, 8] xs.length (fun gg _ s8 wr => ∃ kk : Nat, s8 = .int .i64 kk ∧ Aside0 (kk ≤ xs.length) ∧ Aside0 (xs.length - kk ≤ gg) ∧ Aside0 (Below w.heap.size w wr) ∧ Aside0 (∀ x ∈ xs.take kk, p x = false))
  case atStart => exact ⟨0, rfl, ⟨Nat.zero_le _⟩, ⟨by omega⟩, ⟨Below.refl _ w⟩, ⟨fun x hx => by simp at hx⟩⟩
  case round =>
    obtain ⟨kk, rfl, HK, HM, HB, HN⟩ := hrel
    have hkk := HK.out
    by_cases hlt : kk < xs.length
    · have hltz : (kk : Int) < (xs.length : Int) := by omega
      obtain ⟨ad, e, hx0, hx1, hx2, hx3, hx4⟩ := at_T46 HC.out (kk : Int) (by omega) hltz
      subst e
      obtain ⟨y, hy⟩ := ex_get hlt
      rw [rd46 hy] at hx0 hx1 hx2 hx3 hx4
      simp only [Int.toNat_natCast] at hx0 hx1 hx2 hx3 hx4
      replace hx0 := (HB.out.cell (World.block_lt_of_cell? w _ hx0)).trans hx0
      replace hx1 := (HB.out.cell (World.block_lt_of_cell? w _ hx1)).trans hx1
      replace hx2 := (HB.out.cell (World.block_lt_of_cell? w _ hx2)).trans hx2
      replace hx3 := (HB.out.cell (World.block_lt_of_cell? w _ hx3)).trans hx3
      replace hx4 := (HB.out.cell (World.block_lt_of_cell? w _ hx4)).trans hx4
      have HY := Aside0.mk hy
      have hcall := hp wr y (List.mem_of_getElem? hy) HB.out
      unfold sv at hcall
      clear hy hp
      cases hq : p y with
      | true =>
        rw [hq] at hcall
        go_wp2_with (go_at_fn g; refine hcall.mono ?_; rintro e w' ⟨rfl, hb'⟩)
        go_ret
        exact ⟨by rw [any_take HY.out HN.out hq]; rfl, below_step HB.out hb'⟩
      | false =>
        rw [hq] at hcall
        go_wp2_with (go_at_fn g; refine hcall.mono ?_; rintro e w' ⟨rfl, hb'⟩)
        go_roundg (xs.length - (kk + 1))
        case measure => have := HM.out; omega
        case rel => exact ⟨kk + 1, by go_num, ⟨by omega⟩, ⟨Nat.le_refl _⟩, ⟨below_step HB.out hb'⟩, ⟨take_step HY.out HN.out hq⟩⟩
    · obtain rfl : kk = xs.length := by omega
      have hltz : ¬ (xs.length : Int) < (xs.length : Int) := by omega
      go_wp2
      go_ret
      exact ⟨by rw [any_none HN.out]; rfl, HB.out⟩
set_option maxHeartbeats 4000000 in
set_option maxRecDepth 100000 in
theorem idxf_point (p : S37 → Bool) (g : Nat) (lb : Array Value) (eg : ∀ args w, (callFunc g args).run Tryz.prog w = .ok (.enter g args) w) (A : Option Addr) (xs : List S37) (c : Nat) (w : World) (hC : Kd.C k37 w A xs.length xs)
    (hp : ∀ (W : World) (x : S37), x ∈ xs → Below w.heap.size w W → Calls Tryz.prog g (#[pv x] ++ lb) W fun e w' => e = .returned (.bool (p x)) ∧ Below W.heap.size W w') :
    Calls Tryz.prog 59 #[.slice A xs.length c, .func (.func g) #[] lb] w fun e w' => e = .returned (.int .i64 (idxF p xs)) ∧ Below w.heap.size w w' := by
  have HC := Aside0.mk hC
  have hmax : xs.length ≤ 9223372036854775807 := hC.2.1
  clear hC
  go_enter Tryz.func59, Tryz.ntmps59
  go_wp2
  go_loopg [5, 8] xs.length (fun gg _ s8 wr => ∃ kk : Nat, s8 = .int .i64 kk ∧ Aside0 (kk ≤ xs.length) ∧ Aside0 (xs.length - kk ≤ gg) ∧ Aside0 (Below w.heap.size w wr) ∧ Aside0 (∀ x ∈ xs.take kk, p x = false))
  case atStart => exact ⟨0, rfl, ⟨Nat.zero_le _⟩, ⟨by omega⟩, ⟨Below.refl _ w⟩, ⟨fun x hx => by simp at hx⟩⟩
  case round =>
    obtain ⟨kk, rfl, HK, HM, HB, HN⟩ := hrel
    have hkk := HK.out
    by_cases hlt : kk < xs.length
    · have hltz : (kk : Int) < (xs.length : Int) := by omega
      obtain ⟨ad, e, hx0, hx1, hx2⟩ := at_T37 HC.out (kk : Int) (by omega) hltz
      subst e
      obtain ⟨y, hy⟩ := ex_get hlt
      rw [rd37 hy] at hx0 hx1 hx2
      simp only [Int.toNat_natCast] at hx0 hx1 hx2
      replace hx0 := (HB.out.cell (World.block_lt_of_cell? w _ hx0)).trans hx0
      replace hx1 := (HB.out.cell (World.block_lt_of_cell? w _ hx1)).trans hx1
      replace hx2 := (HB.out.cell (World.block_lt_of_cell? w _ hx2)).trans hx2
      have HY := Aside0.mk hy
      have hcall := hp wr y (List.mem_of_getElem? hy) HB.out
      unfold pv at hcall
      clear hy hp
      cases hq : p y with
      | true =>
        rw [hq] at hcall
        go_wp2_with (go_at_fn g; refine hcall.mono ?_; rintro e w' ⟨rfl, hb'⟩)
        go_ret
        exact ⟨by rw [any_take HY.out HN.out hq]; rfl, below_step HB.out hb'⟩
      | false =>
        rw [hq] at hcall
        go_wp2_with (go_at_fn g; refine hcall.mono ?_; rintro e w' ⟨rfl, hb'⟩)
        go_roundg (xs.length - (kk + 1))
        case measure => have := HM.out; omega
        case rel => exact ⟨kk + 1, by go_num, ⟨by omega⟩, ⟨Nat.le_refl _⟩, ⟨below_step HB.out hb'⟩, ⟨take_step HY.out HN.out hq⟩⟩
    · obtain rfl : kk = xs.length := by omega
      have hltz : ¬ (xs.length : Int) < (xs.length : Int) := by omega
      go_wp2
      go_ret
      exact ⟨by rw [any_none HN.out]; rfl, HB.out⟩
theorem contf_span (p : S46 → Bool) (g : Nat) (lb : Array Value) (eg : ∀ args w, (callFunc g args).run Tryz.prog w = .ok (.enter g args) w) (A : Option Addr) (xs : List S46) (c : Nat) (w : World) (hC : Kd.C k46 w A xs.length xs)
    (hp : ∀ (W : World) (x : S46), x ∈ xs → Below w.heap.size w W → Calls Tryz.prog g (#[sv x] ++ lb) W fun e w' => e = .returned (.bool (p x)) ∧ Below W.heap.size W w') :
    Calls Tryz.prog 27 #[.slice A xs.length c, .func (.func g) #[] lb] w fun e w' => e = .returned (.bool (xs.any p)) ∧ Below w.heap.size w w' := by
  have hi := idxf_span p g lb eg A xs c w hC hp
  clear hp hC
  go_enter Tryz.func27, Tryz.ntmps27
  go_wp2_with (go_at_call 60; refine hi.mono ?_; rintro e w' ⟨rfl, hb⟩)
  go_ret
  exact ⟨by rw [← idxF_nonneg]; rfl, hb⟩
theorem chas_any (r : S44) (key : ByteArray) (w : World) : Calls Tryz.prog 36 #[.agg #[.string r.f0, .string r.f1, .bool r.f2], .string key] w fun e w' => e = .returned (.bool (hasB r key)) ∧ Below w.heap.size w w' :=
  code_Has.calls _ _ _ _ _ w (chas_eq r key)
theorem contains_any (L : List S37) (A : Option Addr) (c : Nat) (p : S37) (w : World) (hC : Kd.C k37 w A L.length L) (hc : L.length ≤ c) (hl : L.length < 4611686018427387904) :
    Calls Tryz.prog 34 #[.slice A L.length c, pv p] w fun e w' => e = .returned (.bool (L.any (eqP p))) ∧ Below w.heap.size w w' := by
  obtain ⟨k, hk⟩ := (contains_ev L p hl).ex
  exact api_Point_34.calls k A c L _ _ _ _ w hC hc hk
set_option maxHeartbeats 4000000 in
theorem reads1_any (s : S46) (p : S37) (b : Nat) (w : World) (hb : w.heap[b]? = some (pO p)) :
    Calls Tryz.prog 35 (#[sv s] ++ #[.pointer (some ⟨b, 0, none⟩)]) w fun e w' => e = .returned (.bool (spanB p s)) ∧ Below w.heap.size w w' := by
  have h0 : w.cell? ⟨b, 0, none⟩ = some (.int .i64 p.f0) := cell_of hb 0
  have h1 : w.cell? ⟨b, 1, none⟩ = some (.int .i64 p.f1) := cell_of hb 1
  have h2 : w.cell? ⟨b, 2, none⟩ = some (.string p.f2) := cell_of hb 2
  have hlt := lt_of hb
  have n1 : (b = w.heap.size) = False := eq_false (by omega)
  clear hb
  unfold sv
  by_cases e0 : s.f0 = p.f0
  · by_cases e1 : s.f1 = p.f1
    · have hh := fun W => chas_any s.f2 p.f2 W
      have hs : spanB p s = hasB s.f2 p.f2 := by unfold spanB; simp [e0, e1]
      rw [hs]
      go_enter Tryz.func35, Tryz.ntmps35
      go_wp2_with (go_at_call 36; refine (hh _).mono ?_; rintro e w' ⟨rfl, hB⟩)
      go_ret
      exact ⟨rfl, below_step (below_alloc (Below.refl _ _) _) hB⟩
    · have hs : spanB p s = false := by unfold spanB; simp [e0, e1]
      have e1b : (s.f1 == p.f1) = false := by simpa using e1
      rw [hs]
      go_enter Tryz.func35, Tryz.ntmps35
      go_wp2
      go_ret
      exact ⟨rfl, below_alloc (Below.refl _ _) _⟩
  · have hs : spanB p s = false := by unfold spanB; simp [e0]
    have e0b : (s.f0 == p.f0) = false := by simpa using e0
    rw [hs]
    go_enter Tryz.func35, Tryz.ntmps35
    go_wp2
    go_ret
    exact ⟨rfl, below_alloc (Below.refl _ _) _⟩
theorem enter35 : ∀ args w, (callFunc 35 args).run Tryz.prog w = .ok (.enter 35 args) w := fun args w => by simp [go_sem]
set_option maxHeartbeats 4000000 in
theorem reads_any (ps : List S37) (ss : List S46) (A0 A1 A2 : Option Addr) (n2 c0 c1 c2 : Nat) (p : S37) (w : World) (h0 : Kd.C k37 w A0 ps.length ps) (hc0 : ps.length ≤ c0) (h1 : Kd.C k46 w A1 ss.length ss) (hc1 : ss.length ≤ c1) (hl : ps.length < 4611686018427387904) :
    Calls Tryz.prog 16 #[.agg #[.slice A0 ps.length c0, .slice A1 ss.length c1, .slice A2 n2 c2], pv p] w fun e w' => e = .returned (.bool (readsS ps ss p)) ∧ Below w.heap.size w w' := by
  generalize hW : (w.alloc (.cells #[.slice A0 ps.length c0, .slice A1 ss.length c1, .slice A2 n2 c2] 25)).alloc (pO p) = W
  have hB : Below w.heap.size w W := by rw [← hW]; exact below_alloc (below_alloc (Below.refl _ _) _) _
  have g0 : W.heap[w.heap.size]? = some (.cells #[.slice A0 ps.length c0, .slice A1 ss.length c1, .slice A2 n2 c2] 25) := by rw [← hW]; exact heap_old (heap_new _ _)
  have g1 : W.heap[w.heap.size + 1]? = some (pO p) := by rw [← hW]; have := heap_new (w.alloc (.cells #[.slice A0 ps.length c0, .slice A1 ss.length c1, .slice A2 n2 c2] 25)) (pO p); rw [size_new] at this; exact this
  have hcon := contains_any ps A0 c0 p W (Kd.C_below h0 hB) hc0 hl
  have HW := Aside0.mk hW
  have HB := Aside0.mk hB
  have HC1 := Aside0.mk h1
  have HG0 := Aside0.mk g0
  have HG1 := Aside0.mk g1
  unfold pO at HW
  clear hW hB h0 h1 g0 g1
  unfold pv at hcon ⊢
  cases hq : ps.any (eqP p) with
  | true =>
    rw [hq] at hcon
    have hs : readsS ps ss p = true := by unfold readsS; rw [hq, Bool.true_or]
    rw [hs]
    clear hq hs
    go_enter Tryz.func16, Tryz.ntmps16
    go_wp2_with (go_at_call 34; rw [HW.out]; refine hcon.mono ?_; rintro e w' ⟨rfl, hb⟩)
    go_ret
    exact ⟨rfl, below_step HB.out hb⟩
  | false =>
    rw [hq] at hcon
    have hs : readsS ps ss p = ss.any (spanB p) := by unfold readsS; rw [hq, Bool.false_or]
    rw [hs]
    clear hq hs
    go_enter Tryz.func16, Tryz.ntmps16
    go_wp2_with (first | (go_at_call 34; rw [HW.out]; refine hcon.mono ?_; rintro e w3 ⟨rfl, hb⟩; have hb3 := Aside0.mk hb; have j1 : w3.cell? ⟨w.heap.size, 1, none⟩ = some (.slice A1 ss.length c1) := cell_of ((hb.block _ (lt_of HG0.out)).trans HG0.out) 1; clear hb) | (go_at_call 27; refine (contf_span (spanB p) 35 #[.pointer (some ⟨w.heap.size + 1, 0, none⟩)] enter35 A1 ss c1 _ (Kd.C_below HC1.out (below_step HB.out hb3.out)) (fun V x _ hV => reads1_any x p _ V ((hV.block _ (Nat.lt_of_lt_of_le (lt_of HG1.out) hb3.out.size)).trans ((hb3.out.block _ (lt_of HG1.out)).trans HG1.out)))).mono ?_; rintro e w4 ⟨rfl, hb4⟩; have HB4 := Aside0.mk hb4; clear hb4))
    go_ret
    exact ⟨rfl, below_step (below_step HB.out hb3.out) HB4.out⟩
/-- What lies behind a call of Clash or Both in memory. -/
structure Lay (w wr : World) (f0 f1 : Array Value) (nn : Nat) (L : List S37) : Prop where
  x0 : wr.heap[w.heap.size]? = some (.cells f0 25)
  x1 : wr.heap[w.heap.size + 1]? = some (.cells f1 25)
  x2 : wr.heap[w.heap.size + 1 + 1]? = some (pO zP)
  x3 : PM wr (w.heap.size + 1 + 1 + 1) nn L
  x4 : wr.heap[w.heap.size + 1 + 1 + 1 + 1]? = some (.cells #[.map (some (w.heap.size + 1 + 1 + 1))] 59)
  bel : Below w.heap.size w wr
theorem Lay.below {w wr W : World} {f0 f1 : Array Value} {nn : Nat} {L : List S37} (h : Lay w wr f0 f1 nn L) (hb : Below wr.heap.size wr W) : Lay w W f0 f1 nn L :=
  ⟨(hb.block _ (lt_of h.x0)).trans h.x0, (hb.block _ (lt_of h.x1)).trans h.x1, (hb.block _ (lt_of h.x2)).trans h.x2, h.x3.below hb, (hb.block _ (lt_of h.x4)).trans h.x4, below_step h.bel hb⟩
theorem Lay.put {w wr : World} {f0 f1 : Array Value} {nn : Nat} {L : List S37} (h : Lay w wr f0 f1 nn L) (hn : nn < maxLen) {x : S37} (hx : wfP x) :
    ∃ w', (Instr.mapUpdate 59 (.map (some (w.heap.size + 1 + 1 + 1))) (pv x) (.agg #[])).run Tryz.prog wr = .ok () w' ∧ Lay w w' f0 f1 (nn + 1) (L ++ [x]) := by
  obtain ⟨w', hrun, hP, hg⟩ := h.x3.put hn hx
  have hz := lt_of h.x4
  have hk : ∀ j, j < wr.heap.size → j ≠ w.heap.size + 1 + 1 + 1 → w'.heap[j]? = wr.heap[j]? := fun j hj hne => hg.block j hj (fun e => hne (Option.some.inj e))
  exact ⟨w', hrun, (hk _ (by omega) (by omega)).trans h.x0, (hk _ (by omega) (by omega)).trans h.x1, (hk _ (by omega) (by omega)).trans h.x2, hP, (hk _ (by omega) (by omega)).trans h.x4,
    h.bel.grown hg h.bel.size (fun k hk => by injection hk with hk; omega)⟩
theorem lay_new (w : World) (f0 f1 : Array Value) : Lay w (((((w.alloc (.cells f0 25)).alloc (.cells f1 25)).alloc (pO zP)).alloc (.map #[] 0)).alloc (.cells #[.map (some (w.heap.size + 1 + 1 + 1))] 59)) f0 f1 0 [] := by
  have s1 := size_new w (.cells f0 25)
  have s2 := size_new (w.alloc (.cells f0 25)) (.cells f1 25)
  have s3 := size_new ((w.alloc (.cells f0 25)).alloc (.cells f1 25)) (pO zP)
  have s4 := size_new (((w.alloc (.cells f0 25)).alloc (.cells f1 25)).alloc (pO zP)) (.map #[] 0)
  have h1 := heap_new (w.alloc (.cells f0 25)) (.cells f1 25)
  have h2 := heap_new ((w.alloc (.cells f0 25)).alloc (.cells f1 25)) (pO zP)
  have h3 := PM.new (((w.alloc (.cells f0 25)).alloc (.cells f1 25)).alloc (pO zP))
  have h4 := heap_new ((((w.alloc (.cells f0 25)).alloc (.cells f1 25)).alloc (pO zP)).alloc (.map #[] 0)) (.cells #[.map (some (w.heap.size + 1 + 1 + 1))] 59)
  rw [s1] at h1 s2
  rw [s2] at h2 s3
  rw [s3] at h3 s4
  rw [s4] at h4
  exact ⟨heap_old (heap_old (heap_old (heap_old (heap_new _ _)))), heap_old (heap_old (heap_old h1)), heap_old (heap_old h2), h3.below (below_alloc (Below.refl _ _) _), h4, below_alloc (below_alloc (below_alloc (below_alloc (below_alloc (Below.refl _ _) _) _) _) _) _⟩
theorem C_nil37 (w : World) : Kd.C k37 w none ([] : List S37).length [] := (Kd.R_reads' (Kd.R_nil k37 37 w 0 (fun _ => True))).2.2
set_option maxHeartbeats 4000000 in
theorem clash1_any (ps : List S37) (ss : List S46) (p : S37) (mv m nn sb : Nat) (A1 : Option Addr) (c1 : Nat) (w : World) (hp : wfP p) (hM : PM w m nn ps) (hv : w.heap[mv]? = some (.cells #[.map (some m)] 59)) (hs : w.heap[sb]? = some (.cells #[.slice none 0 0, .slice A1 ss.length c1, .slice none 0 0] 25)) (h1 : Kd.C k46 w A1 ss.length ss) (hc1 : ss.length ≤ c1) :
    Calls Tryz.prog 38 (#[pv p] ++ #[.pointer (some ⟨mv, 0, none⟩), .pointer (some ⟨sb, 0, none⟩)]) w fun e w' => e = .returned (.bool (readsS ps ss p)) ∧ Below w.heap.size w w' := by
  have hlook := (hM.below (below_alloc (Below.refl _ _) (pO p))).look hp
  have v0 : w.cell? ⟨mv, 0, none⟩ = some (.map (some m)) := cell_of hv 0
  have s0 : w.cell? ⟨sb, 0, none⟩ = some (.slice none 0 0) := cell_of hs 0
  have s1 : w.cell? ⟨sb, 1, none⟩ = some (.slice A1 ss.length c1) := cell_of hs 1
  have s2 : w.cell? ⟨sb, 2, none⟩ = some (.slice none 0 0) := cell_of hs 2
  have l1 := lt_of hv
  have l2 := lt_of hs
  have n1 : (mv = w.heap.size) = False := eq_false (by omega)
  have n2 : (sb = w.heap.size) = False := eq_false (by omega)
  have n3 : (sb = w.heap.size + 1) = False := eq_false (by omega)
  have n4 : (w.heap.size = w.heap.size + 1) = False := eq_false (by omega)
  have HC1 := Aside0.mk h1
  clear hM hv hs h1
  unfold pv pO at hlook
  unfold pv
  cases hq : ps.any (eqP p) with
  | true =>
    rw [hq] at hlook
    have hr : readsS ps ss p = true := by unfold readsS; rw [hq, Bool.true_or]
    rw [hr]
    clear hq hr
    go_enter Tryz.func38, Tryz.ntmps38
    go_wp2
    go_ret
    exact ⟨rfl, below_alloc (below_alloc (Below.refl _ _) _) _⟩
  | false =>
    rw [hq] at hlook
    have hr : readsS ps ss p = readsS [] ss p := by unfold readsS; rw [hq]; rfl
    rw [hr]
    clear hq hr
    go_enter Tryz.func38, Tryz.ntmps38
    go_wp2_with (go_at_call 16; refine (reads_any [] ss none A1 none 0 0 c1 0 p _ (C_nil37 _) (Nat.le_refl _) (Kd.C_below HC1.out (below_alloc (below_alloc (Below.refl _ _) _) _)) hc1 (by decide)).mono ?_; rintro e w3 ⟨rfl, hb⟩; have HB := Aside0.mk hb; clear hb)
    go_ret
    exact ⟨rfl, below_step (below_alloc (below_alloc (Below.refl _ _) _) _) HB.out⟩
set_option maxHeartbeats 4000000 in
theorem both1_any (qs : List S37) (p : S37) (mv m nn : Nat) (w : World) (hp : wfP p) (hM : PM w m nn qs) (hv : w.heap[mv]? = some (.cells #[.map (some m)] 59)) :
    Calls Tryz.prog 45 (#[pv p] ++ #[.pointer (some ⟨mv, 0, none⟩)]) w fun e w' => e = .returned (.bool (qs.any (eqP p) && p.f1 == -1)) ∧ Below w.heap.size w w' := by
  have hlook := (hM.below (below_alloc (Below.refl _ _) (pO p))).look hp
  have v0 : w.cell? ⟨mv, 0, none⟩ = some (.map (some m)) := cell_of hv 0
  have l1 := lt_of hv
  have n1 : (mv = w.heap.size) = False := eq_false (by omega)
  have n4 : (w.heap.size = w.heap.size + 1) = False := eq_false (by omega)
  clear hM hv
  unfold pv pO at hlook
  unfold pv
  cases hq : qs.any (eqP p) with
  | true =>
    rw [hq] at hlook
    clear hq
    rw [Bool.true_and]
    go_enter Tryz.func45, Tryz.ntmps45
    go_wp2
    go_ret
    exact ⟨rfl, below_alloc (below_alloc (Below.refl _ _) _) _⟩
  | false =>
    rw [hq] at hlook
    clear hq
    rw [Bool.false_and]
    go_enter Tryz.func45, Tryz.ntmps45
    go_wp2
    go_ret
    exact ⟨rfl, below_alloc (below_alloc (Below.refl _ _) _) _⟩
theorem enter38 : ∀ args w, (callFunc 38 args).run Tryz.prog w = .ok (.enter 38 args) w := fun args w => by simp [go_sem]
theorem enter45 : ∀ args w, (callFunc 45 args).run Tryz.prog w = .ok (.enter 45 args) w := fun args w => by simp [go_sem]
set_option maxHeartbeats 8000000 in
set_option maxRecDepth 100000 in
theorem clash_any (ps : List S37) (ss : List S46) (ws : List S37) (A0 A1 A2 B0 B1 B2 : Option Addr) (n2 m0 m1 c0 c1 c2 d0 d1 d2 : Nat) (w : World) (h0 : Kd.C k37 w A0 ps.length ps) (hc0 : ps.length ≤ c0) (h1 : Kd.C k46 w A1 ss.length ss) (hc1 : ss.length ≤ c1) (h2 : Kd.C k37 w B2 ws.length ws) (hd2 : ws.length ≤ d2)
    (hl : ps.length < 4398046511104) (hwp : ∀ x ∈ ps, wfP x) (hww : ∀ x ∈ ws, wfP x) :
    Calls Tryz.prog 17 #[.agg #[.slice A0 ps.length c0, .slice A1 ss.length c1, .slice A2 n2 c2], .agg #[.slice B0 m0 d0, .slice B1 m1 d1, .slice B2 ws.length d2]] w fun e w' => e = .returned (.tuple #[pv ((leastS (ws.filter (readsS ps ss))).getD zP), .bool (leastS (ws.filter (readsS ps ss))).isSome]) ∧ Below w.heap.size w w' := by
  have hmm := @run_makeMap Tryz.prog
  have HC0 := Aside0.mk h0
  have HC1 := Aside0.mk h1
  have HC2 := Aside0.mk h2
  have HWp := Aside0.mk hwp
  have HWw := Aside0.mk hww
  clear h0 h1 h2 hwp hww
  go_enter Tryz.func17, Tryz.ntmps17
  go_wp2
  have HL0 := Aside0.mk (lay_new w #[.slice A0 ps.length c0, .slice A1 ss.length c1, .slice A2 n2 c2] #[.slice B0 m0 d0, .slice B1 m1 d1, .slice B2 ws.length d2])
  go_loopg [14] ps.length (fun gg s14 wr => ∃ k : Nat, s14 = .int .i64 k ∧ k ≤ ps.length ∧ Aside0 (ps.length - k ≤ gg) ∧ Aside0 (Lay w wr #[.slice A0 ps.length c0, .slice A1 ss.length c1, .slice A2 n2 c2] #[.slice B0 m0 d0, .slice B1 m1 d1, .slice B2 ws.length d2] k (ps.take k)))
  case atStart => exact ⟨0, rfl, Nat.zero_le _, ⟨by omega⟩, ⟨HL0.out⟩⟩
  case round =>
    clear HL0
    obtain ⟨k, rfl, hk, HM, HL⟩ := hrel
    by_cases hlt : k < ps.length
    · have hltz : (k : Int) < (ps.length : Int) := by omega
      obtain ⟨ad, ea, a0, a1, a2⟩ := at_T37 HC0.out (k : Int) (by omega) hltz
      subst ea
      obtain ⟨y, hy⟩ := ex_get hlt
      rw [rd37 hy] at a0 a1 a2
      simp only [Int.toNat_natCast] at a0 a1 a2
      replace a0 := (HL.out.bel.cell (World.block_lt_of_cell? _ _ a0)).trans a0
      replace a1 := (HL.out.bel.cell (World.block_lt_of_cell? _ _ a1)).trans a1
      replace a2 := (HL.out.bel.cell (World.block_lt_of_cell? _ _ a2)).trans a2
      obtain ⟨w3, hrun, hL3⟩ := (HL.out.below (below_alloc (Below.refl _ _) (pO y))).put (by unfold maxLen; omega) (HWp.out y (List.mem_of_getElem? hy))
      rw [← take_snoc hy] at hL3
      have HL3 := Aside0.mk hL3
      have x4 : wr.cell? ⟨w.heap.size + 1 + 1 + 1 + 1, 0, none⟩ = some (.map (some (w.heap.size + 1 + 1 + 1))) := cell_of HL.out.x4 0
      have hz := lt_of HL.out.x4
      have n1 : (w.heap.size + 1 + 1 + 1 + 1 = wr.heap.size) = False := eq_false (by omega)
      unfold pv pO at hrun
      clear hy hL3
      go_wp2
      go_roundg (ps.length - (k + 1))
      case measure => have := HM.out; omega
      case rel => exact ⟨k + 1, by go_num, hlt, ⟨Nat.le_refl _⟩, HL3⟩
    · obtain rfl : k = ps.length := by omega
      have hltz : ¬ (ps.length : Int) < (ps.length : Int) := by omega
      have hL := HL.out
      rw [List.take_length] at hL
      have HLz := Aside0.mk hL
      clear hL
      have x01 : wr.cell? ⟨w.heap.size, 1, none⟩ = some (.slice A1 ss.length c1) := cell_of HLz.out.x0 1
      have x12 : wr.cell? ⟨w.heap.size + 1, 2, none⟩ = some (.slice B2 ws.length d2) := cell_of HLz.out.x1 2
      have hz := lt_of HLz.out.x4
      have n1 : (w.heap.size + 1 = wr.heap.size) = False := eq_false (by omega)
      have HNs := Aside0.mk (heap_new wr (.cells #[.slice none 0 0, .slice A1 ss.length c1, .slice none 0 0] 25))
      have HLn := Aside0.mk (HLz.out.below (below_alloc (Below.refl _ _) (.cells #[.slice none 0 0, .slice A1 ss.length c1, .slice none 0 0] 25)))
      have HLe := Aside0.mk (least_any (readsS ps ss) 38 #[.pointer (some ⟨w.heap.size + 1 + 1 + 1 + 1, 0, none⟩), .pointer (some ⟨wr.heap.size, 0, none⟩)] enter38 B2 ws d2 (wr.alloc (.cells #[.slice none 0 0, .slice A1 ss.length c1, .slice none 0 0] 25)) (Kd.C_below HC2.out HLn.out.bel)
        (fun V x hx hV => clash1_any ps ss x _ _ _ _ A1 c1 V (HWw.out x hx) (HLn.out.below hV).x3 (HLn.out.below hV).x4 ((hV.block _ (lt_of HNs.out)).trans HNs.out) (Kd.C_below HC1.out (HLn.out.below hV).bel) hc1))
      have xn : (wr.alloc (.cells #[.slice none 0 0, .slice A1 ss.length c1, .slice none 0 0] 25)).cell? ⟨w.heap.size + 1, 2, none⟩ = some (.slice B2 ws.length d2) := cell_of HLn.out.x1 2
      go_wp2_with (go_at_call 37; refine HLe.out.mono ?_; rintro e w5 ⟨rfl, hb⟩; have HB5 := Aside0.mk hb; have HL5 := Aside0.mk (HLn.out.below hb); clear hb; have j0 : w5.cell? ⟨w.heap.size + 1 + 1, 0, none⟩ = some (.int .i64 0) := cell_of HL5.out.x2 0; have j1 : w5.cell? ⟨w.heap.size + 1 + 1, 1, none⟩ = some (.int .i64 0) := cell_of HL5.out.x2 1; have j2 : w5.cell? ⟨w.heap.size + 1 + 1, 2, none⟩ = some (.string ⟨#[]⟩) := cell_of HL5.out.x2 2; have k3 : w5.frozen? ⟨w.heap.size + 1 + 1, 0, none⟩ = false := frozen_of HL5.out.x2 0; have k4 : w5.frozen? ⟨w.heap.size + 1 + 1, 1, none⟩ = false := frozen_of HL5.out.x2 1; have k5 : w5.frozen? ⟨w.heap.size + 1 + 1, 2, none⟩ = false := frozen_of HL5.out.x2 2; unfold pv)
      refine bodyPost_ret (results_ct rfl _ _ (w.heap.size + 1 + 1) 37 #[.int .i64 ((leastS (ws.filter (readsS ps ss))).getD zP).f0, .int .i64 ((leastS (ws.filter (readsS ps ss))).getD zP).f1, .string ((leastS (ws.filter (readsS ps ss))).getD zP).f2] (0, 0) _ rfl (setCell_heap (setCell_heap (setCell_heap HL5.out.x2 _) _) _) Tryz.underlying37 rfl (by kernel_rfl)) rfl ?_
      exact ⟨rfl, ((HL5.out.bel.setCell (p := ⟨w.heap.size + 1 + 1, 0, none⟩) (by show w.heap.size ≤ w.heap.size + 1 + 1; omega) _).setCell (p := ⟨w.heap.size + 1 + 1, 1, none⟩) (by show w.heap.size ≤ w.heap.size + 1 + 1; omega) _).setCell (p := ⟨w.heap.size + 1 + 1, 2, none⟩) (by show w.heap.size ≤ w.heap.size + 1 + 1; omega) _⟩
set_option maxHeartbeats 8000000 in
set_option maxRecDepth 100000 in
theorem both_any (ws qs : List S37) (A0 A1 A2 B0 B1 B2 : Option Addr) (n0 n1_ m0 m1 c0 c1 c2 d0 d1 d2 : Nat) (w : World) (h0 : Kd.C k37 w A2 ws.length ws) (hc0 : ws.length ≤ c2) (h2 : Kd.C k37 w B2 qs.length qs) (hd2 : qs.length ≤ d2)
    (hl : qs.length < 4398046511104) (hwp : ∀ x ∈ ws, wfP x) (hww : ∀ x ∈ qs, wfP x) :
    Calls Tryz.prog 19 #[.agg #[.slice A0 n0 c0, .slice A1 n1_ c1, .slice A2 ws.length c2], .agg #[.slice B0 m0 d0, .slice B1 m1 d1, .slice B2 qs.length d2]] w fun e w' => e = .returned (.tuple #[pv ((leastS (ws.filter (fun p => qs.any (eqP p) && p.f1 == -1))).getD zP), .bool (leastS (ws.filter (fun p => qs.any (eqP p) && p.f1 == -1))).isSome]) ∧ Below w.heap.size w w' := by
  have hmm := @run_makeMap Tryz.prog
  have HC0 := Aside0.mk h0
  have HC2 := Aside0.mk h2
  have HWw := Aside0.mk hwp
  have HWp := Aside0.mk hww
  clear h0 h2 hwp hww
  go_enter Tryz.func19, Tryz.ntmps19
  go_wp2
  have HL0 := Aside0.mk (lay_new w #[.slice A0 n0 c0, .slice A1 n1_ c1, .slice A2 ws.length c2] #[.slice B0 m0 d0, .slice B1 m1 d1, .slice B2 qs.length d2])
  go_loopg [13] qs.length (fun gg s13 wr => ∃ k : Nat, s13 = .int .i64 k ∧ k ≤ qs.length ∧ Aside0 (qs.length - k ≤ gg) ∧ Aside0 (Lay w wr #[.slice A0 n0 c0, .slice A1 n1_ c1, .slice A2 ws.length c2] #[.slice B0 m0 d0, .slice B1 m1 d1, .slice B2 qs.length d2] k (qs.take k)))
  case atStart => exact ⟨0, rfl, Nat.zero_le _, ⟨by omega⟩, ⟨HL0.out⟩⟩
  case round =>
    clear HL0
    obtain ⟨k, rfl, hk, HM, HL⟩ := hrel
    by_cases hlt : k < qs.length
    · have hltz : (k : Int) < (qs.length : Int) := by omega
      obtain ⟨ad, ea, a0, a1, a2⟩ := at_T37 HC2.out (k : Int) (by omega) hltz
      subst ea
      obtain ⟨y, hy⟩ := ex_get hlt
      rw [rd37 hy] at a0 a1 a2
      simp only [Int.toNat_natCast] at a0 a1 a2
      replace a0 := (HL.out.bel.cell (World.block_lt_of_cell? _ _ a0)).trans a0
      replace a1 := (HL.out.bel.cell (World.block_lt_of_cell? _ _ a1)).trans a1
      replace a2 := (HL.out.bel.cell (World.block_lt_of_cell? _ _ a2)).trans a2
      obtain ⟨w3, hrun, hL3⟩ := (HL.out.below (below_alloc (Below.refl _ _) (pO y))).put (by unfold maxLen; omega) (HWp.out y (List.mem_of_getElem? hy))
      rw [← take_snoc hy] at hL3
      have HL3 := Aside0.mk hL3
      have x4 : wr.cell? ⟨w.heap.size + 1 + 1 + 1 + 1, 0, none⟩ = some (.map (some (w.heap.size + 1 + 1 + 1))) := cell_of HL.out.x4 0
      have hz := lt_of HL.out.x4
      have n1 : (w.heap.size + 1 + 1 + 1 + 1 = wr.heap.size) = False := eq_false (by omega)
      unfold pv pO at hrun
      clear hy hL3
      go_wp2
      go_roundg (qs.length - (k + 1))
      case measure => have := HM.out; omega
      case rel => exact ⟨k + 1, by go_num, hlt, ⟨Nat.le_refl _⟩, HL3⟩
    · obtain rfl : k = qs.length := by omega
      have hltz : ¬ (qs.length : Int) < (qs.length : Int) := by omega
      have hL := HL.out
      rw [List.take_length] at hL
      have HLz := Aside0.mk hL
      clear hL
      have x02 : wr.cell? ⟨w.heap.size, 2, none⟩ = some (.slice A2 ws.length c2) := cell_of HLz.out.x0 2
      have HLe := Aside0.mk (least_any (fun p => qs.any (eqP p) && p.f1 == -1) 45 #[.pointer (some ⟨w.heap.size + 1 + 1 + 1 + 1, 0, none⟩)] enter45 A2 ws c2 wr (Kd.C_below HC0.out HLz.out.bel)
        (fun V x hx hV => both1_any qs x _ _ _ V (HWw.out x hx) (HLz.out.below hV).x3 (HLz.out.below hV).x4))
      go_wp2_with (go_at_call 37; refine HLe.out.mono ?_; rintro e w5 ⟨rfl, hb⟩; have HB5 := Aside0.mk hb; have HL5 := Aside0.mk (HLz.out.below hb); clear hb; have j0 : w5.cell? ⟨w.heap.size + 1 + 1, 0, none⟩ = some (.int .i64 0) := cell_of HL5.out.x2 0; have j1 : w5.cell? ⟨w.heap.size + 1 + 1, 1, none⟩ = some (.int .i64 0) := cell_of HL5.out.x2 1; have j2 : w5.cell? ⟨w.heap.size + 1 + 1, 2, none⟩ = some (.string ⟨#[]⟩) := cell_of HL5.out.x2 2; have k3 : w5.frozen? ⟨w.heap.size + 1 + 1, 0, none⟩ = false := frozen_of HL5.out.x2 0; have k4 : w5.frozen? ⟨w.heap.size + 1 + 1, 1, none⟩ = false := frozen_of HL5.out.x2 1; have k5 : w5.frozen? ⟨w.heap.size + 1 + 1, 2, none⟩ = false := frozen_of HL5.out.x2 2; unfold pv)
      refine bodyPost_ret (results_ct rfl _ _ (w.heap.size + 1 + 1) 37 #[.int .i64 ((leastS (ws.filter (fun p => qs.any (eqP p) && p.f1 == -1))).getD zP).f0, .int .i64 ((leastS (ws.filter (fun p => qs.any (eqP p) && p.f1 == -1))).getD zP).f1, .string ((leastS (ws.filter (fun p => qs.any (eqP p) && p.f1 == -1))).getD zP).f2] (0, 0) _ rfl (setCell_heap (setCell_heap (setCell_heap HL5.out.x2 _) _) _) Tryz.underlying37 rfl (by kernel_rfl)) rfl ?_
      exact ⟨rfl, ((HL5.out.bel.setCell (p := ⟨w.heap.size + 1 + 1, 0, none⟩) (by show w.heap.size ≤ w.heap.size + 1 + 1; omega) _).setCell (p := ⟨w.heap.size + 1 + 1, 1, none⟩) (by show w.heap.size ≤ w.heap.size + 1 + 1; omega) _).setCell (p := ⟨w.heap.size + 1 + 1, 2, none⟩) (by show w.heap.size ≤ w.heap.size + 1 + 1; omega) _⟩
end Go.Proofs.YtldlenjfpjihdaaGreat.PS
end
section
namespace Go.Proofs.YtldlenjfpjihdaaGreat.PS
open Go Go.RowKit Go.Proofs Go.Proofs.YtldlenjfpjihdaaGreatW.PrintWords Go.Proofs.YtldlenjfpjihdaaGreatW.PrintLast Go.Proofs.YtldlenjfpjihdaaGreatW.PrintMore
set_option linter.unusedVariables false
set_option linter.unusedSimpArgs false
def enc37 (x : S37) : List Value := [.int .i64 x.f0, .int .i64 x.f1, .string x.f2]
/-- A row of ranges in a block, from its first cell on, none of whose cells is frozen. -/
def RowP (w : World) (g : Nat) (xs : List S37) : Prop := ∀ (i : Nat) (x : S37), xs[i]? = some x → ∀ (j : Nat) (u : Value), (enc37 x)[j]? = some u → w.cell? ⟨g, i * 3 + j, none⟩ = some u ∧ w.frozen? ⟨g, i * 3 + j, none⟩ = false
theorem RowP.at0 {w : World} {g : Nat} {xs : List S37} (h : RowP w g xs) {i : Nat} {x : S37} (hi : xs[i]? = some x) : w.cell? ⟨g, i * 3, none⟩ = some (.int .i64 x.f0) ∧ w.cell? ⟨g, i * 3 + 1, none⟩ = some (.int .i64 x.f1) ∧ w.cell? ⟨g, i * 3 + 2, none⟩ = some (.string x.f2) ∧ w.frozen? ⟨g, i * 3, none⟩ = false ∧ w.frozen? ⟨g, i * 3 + 1, none⟩ = false ∧ w.frozen? ⟨g, i * 3 + 2, none⟩ = false :=
  ⟨(h i x hi 0 _ rfl).1, (h i x hi 1 _ rfl).1, (h i x hi 2 _ rfl).1, (h i x hi 0 _ rfl).2, (h i x hi 1 _ rfl).2, (h i x hi 2 _ rfl).2⟩
theorem RowP.same {w w' : World} {g : Nat} {xs : List S37} (h : RowP w g xs) (e : w'.heap[g]? = w.heap[g]?) : RowP w' g xs := by
  intro i x hi j u hu
  have := h i x hi j u hu
  simpa [World.cell?, World.frozen?, e] using this
theorem RowP.below {w w' : World} {g : Nat} {xs : List S37} (h : RowP w g xs) (hg : g < w.heap.size) (hb : Below w.heap.size w w') : RowP w' g xs := h.same (hb.block g hg)
theorem RowP.lt {w : World} {g : Nat} {xs : List S37} (h : RowP w g xs) (hn : 0 < xs.length) : g < w.heap.size := by
  have := (h 0 _ (List.getElem?_eq_getElem hn) 0 _ rfl).1
  exact World.block_lt_of_cell? w _ this
theorem RowP.take {w : World} {g : Nat} {xs : List S37} (h : RowP w g xs) (n : Nat) : RowP w g (xs.take n) := by
  intro i x hi
  refine h i x ?_
  rw [List.getElem?_take] at hi
  split at hi
  · exact hi
  · cases hi
theorem RowP.C {w : World} {g : Nat} {xs : List S37} (h : RowP w g xs) (hl : xs.length ≤ 9223372036854775807) : Kd.C k37 w (some ⟨g, 0, none⟩) xs.length xs := by
  refine ⟨rfl, hl, fun _ => ⟨_, rfl, fun j p hp => ⟨enc37 p, rfl, k37_mk w p, fun i u hu => ?_⟩⟩⟩
  have := (h j p hp i u hu).1
  rw [add_plain]
  exact this
theorem idxF_cases {α : Type} (p : α → Bool) (xs : List α) : (idxF p xs = -1 ∧ ∀ x ∈ xs, p x = false) ∨ ∃ k : Nat, k < xs.length ∧ idxF p xs = (k : Int) ∧ (∀ x ∈ xs.take k, p x = false) ∧ ∃ y, xs[k]? = some y ∧ p y = true := by
  unfold idxF
  cases h : xs.any p with
  | false =>
    left
    refine ⟨if_neg (by decide), fun x hx => ?_⟩
    have := List.any_eq_false.1 h x hx
    simpa using this
  | true =>
    right
    have hlt : xs.findIdx p < xs.length := List.findIdx_lt_length.2 (by simpa using h)
    refine ⟨xs.findIdx p, hlt, if_pos rfl, fun x hx => ?_, xs[xs.findIdx p], List.getElem?_eq_getElem hlt, List.findIdx_getElem⟩
    obtain ⟨j, hj, rfl⟩ := List.mem_take_iff_getElem.1 hx
    have := List.not_of_lt_findIdx (p := p) (xs := xs) (i := j) (by omega)
    simpa using this
/-- Behind j elements of which i were kept: the begin is what was kept, the rest is as_ it was. -/
structure KeptRowP (p : S37 → Bool) (xs L : List S37) (i j : Nat) : Prop where
  len : L.length = xs.length
  lt : i < j
  le : j ≤ xs.length
  low : L.take i = (xs.take j).filter fun x => !p x
  high : ∀ k, j ≤ k → L[k]? = xs[k]?
theorem KeptRowP.start {p : S37 → Bool} {xs : List S37} {k : Nat} {y : S37} (hk : k < xs.length) (h : ∀ x ∈ xs.take k, p x = false) (hy : xs[k]? = some y) (hp : p y = true) : KeptRowP p xs xs k (k + 1) := by
  refine ⟨rfl, Nat.lt_succ_self _, hk, ?_, fun _ _ => rfl⟩
  rw [List.take_add_one, hy, List.filter_append, List.filter_eq_self.2 (fun x hx => by rw [h x hx]; rfl)]
  simp [hp]
theorem KeptRowP.skip {p : S37 → Bool} {xs L : List S37} {i j : Nat} {y : S37} (h : KeptRowP p xs L i j) (hy : xs[j]? = some y) (hp : p y = true) : KeptRowP p xs L i (j + 1) := by
  have hj := (List.getElem?_eq_some_iff.1 hy).1
  refine ⟨h.len, Nat.lt_succ_of_lt h.lt, hj, ?_, fun k hk => h.high k (by omega)⟩
  rw [List.take_add_one, hy, List.filter_append, h.low]
  simp [hp]
theorem KeptRowP.keep {p : S37 → Bool} {xs L : List S37} {i j : Nat} {y : S37} (h : KeptRowP p xs L i j) (hy : xs[j]? = some y) (hp : p y = false) : KeptRowP p xs (L.set i y) (i + 1) (j + 1) := by
  have hj := (List.getElem?_eq_some_iff.1 hy).1
  have hlen := h.len
  have hlt := h.lt
  refine ⟨by rw [List.length_set]; exact h.len, by omega, hj, ?_, fun k hk => ?_⟩
  · rw [List.take_add_one, List.getElem?_set_self (by omega), List.take_set_of_le (Nat.le_refl _), h.low, List.take_add_one, hy, List.filter_append]
    simp [hp]
  · rw [List.getElem?_set_ne (by omega)]; exact h.high k (by omega)
theorem RowP.set {w : World} {g : Nat} {xs : List S37} (h : RowP w g xs) (i : Nat) (hi : i < xs.length) (y : S37) : RowP (w.setCells g (i * 3) (enc37 y)) g (xs.set i y) := by
  intro k x hk j u hu
  have hj : j < 3 := by have := (List.getElem?_eq_some_iff.1 hu).1; simpa [enc37] using this
  rw [World.frozen?_setCells]
  by_cases e : i = k
  · subst e
    rw [List.getElem?_set_self hi, Option.some.injEq] at hk
    subst hk
    have hin := World.cell?_setCells_in g (enc37 y) (i * 3) w (fun t ht => by
      have ht3 : t < 3 := by simpa [enc37] using ht
      have := (h i _ (List.getElem?_eq_getElem hi) t ((enc37 xs[i])[t]'(by simpa [enc37] using ht3)) (List.getElem?_eq_getElem _)).1
      rw [this]; rfl) j (by simpa [enc37] using hj)
    refine ⟨?_, (h i _ (List.getElem?_eq_getElem hi) j ((enc37 xs[i])[j]'(by simpa [enc37] using hj)) (List.getElem?_eq_getElem _)).2⟩
    rw [hin]
    have := (List.getElem?_eq_some_iff.1 hu).2
    rw [← this]
  · rw [List.getElem?_set_ne e] at hk
    rw [World.cell?_setCells_out g _ _ _ _ (fun _ _ => by simp [enc37]; omega)]
    exact h k x hk j u hu
theorem RowP.cut {w : World} {g : Nat} {xs : List S37} (h : RowP w g xs) (i : Nat) (vs : List Value) : RowP (w.setCells g (i * 3) vs) g (xs.take i) := by
  intro k x hk j u hu
  have hj : j < 3 := by have := (List.getElem?_eq_some_iff.1 hu).1; simpa [enc37] using this
  rw [List.getElem?_take] at hk
  split at hk
  · rw [World.frozen?_setCells, World.cell?_setCells_out g _ _ _ _ (fun _ _ => by left; show k * 3 + j < i * 3; omega)]
    exact h k x hk j u hu
  · cases hk
theorem below_sets {B g : Nat} {w0 w : World} (hg : B ≤ g) (vs : List Value) (o : Nat) (h : Below B w0 w) : Below B w0 (w.setCells g o vs) := by
  obtain ⟨s1, s2, s3, s4⟩ := setCells_same g vs o w
  exact ⟨s1.trans h.os, s2.trans h.tape, s3.trans h.output, by rw [s4]; exact h.size, fun i hi => (setCells_far vs o i (by omega)).trans (h.block i hi)⟩
/-- 'clear' at ranges: some cells are laid, from the first one on. -/
theorem run_clearRowP (w : World) (b i n c : Nat) (L : List S37) (hR : RowP w b L) (hn : 0 < n) (hL : i + n = L.length) : ∃ vs : List Value, ∀ ty, (Builtin.clear_ #[22] ty #[.slice (some ⟨b, i * 3, none⟩) n c]).run Tryz.prog w = .ok (.tuple #[]) (w.setCells b (i * 3) vs) := by
  have hv := Tryz.zeroValue37
  generalize hz : (Builtin.zeroCells (#[.int .i64 0, .int .i64 0, .string (⟨#[]⟩ : ByteArray)] : Array Value) n).toList = vs
  have hlen : vs.length = n * 3 := by rw [← hz]; simp [Builtin.zeroCells]
  have hone : ∀ v ∈ vs, v.oneCell' = true := by
    intro v hv'
    rw [← hz] at hv'
    simp only [Builtin.zeroCells, Array.toList_map, Array.toList_range, List.mem_map] at hv'
    obtain ⟨j, _, rfl⟩ := hv'
    have h3 : j % 3 = 0 ∨ j % 3 = 1 ∨ j % 3 = 2 := by omega
    show (#[Value.int .i64 0, .int .i64 0, .string (⟨#[]⟩ : ByteArray)][j % 3]!).oneCell' = true
    rcases h3 with e | e | e <;> rw [e] <;> rfl
  have hcell : ∀ j, j < vs.length → (w.cell? ⟨b, i * 3 + j, none⟩).isSome = true ∧ w.frozen? ⟨b, i * 3 + j, none⟩ = false := by
    intro j hj
    rw [hlen] at hj
    have hk : i + j / 3 < L.length := by omega
    have hj3 : j % 3 < (enc37 L[i + j / 3]).length := by show j % 3 < 3; omega
    have := hR (i + j / 3) _ (List.getElem?_eq_getElem hk) (j % 3) _ (List.getElem?_eq_getElem hj3)
    rw [show (i + j / 3) * 3 + j % 3 = i * 3 + j by omega] at this
    exact ⟨by rw [this.1]; rfl, this.2⟩
  have hst := run_storeCells_cells (P := Tryz.prog) b (i * 3) vs 0 w (fun j hj => by simpa using (hcell j hj).1) (fun j hj => by simpa using (hcell j hj).2) hone
  simp only [Nat.add_zero] at hst
  refine ⟨vs, fun ty => ?_⟩
  obtain ⟨m, rfl⟩ : ∃ m, n = m + 1 := ⟨n - 1, by omega⟩
  simp [Builtin.clear_, run_underlying Tryz.underlying22, hv, hz, hst, Value.cells]
set_option maxHeartbeats 4000000 in
set_option maxRecDepth 100000 in
theorem delf_RowP (p : S37 → Bool) (g : Nat) (lb : Array Value) (eg : ∀ args w, (callFunc g args).run Tryz.prog w = .ok (.enter g args) w) (w0 : World) (gb cap : Nat) (xs : List S37) (w : World) (hR : RowP w gb xs) (hl : xs.length ≤ 4611686018427387904) (hcap : xs.length ≤ cap) (h0 : w0.heap.size ≤ gb) (hB : Below w0.heap.size w0 w)
    (hp : ∀ (W : World) (x : S37), Below w0.heap.size w0 W → Calls Tryz.prog g (#[pv x] ++ lb) W fun e w' => e = .returned (.bool (p x)) ∧ Below W.heap.size W w') :
    Calls Tryz.prog 40 #[.slice (some ⟨gb, 0, none⟩) xs.length cap, .func (.func g) #[] lb] w fun e w' => e = .returned (.slice (some ⟨gb, 0, none⟩) (xs.filter fun x => !p x).length cap) ∧ RowP w' gb (xs.filter fun x => !p x) ∧ Below w0.heap.size w0 w' ∧ w.heap.size ≤ w'.heap.size := by
  have hidx := idxf_point p g lb eg (some ⟨gb, 0, none⟩) xs cap w (hR.C (by omega)) (fun W x _ hb => hp W x (below_step hB hb))
  rcases idxF_cases p xs with ⟨e1, hall⟩ | ⟨k0, hk0, e1, hall, y0, hy0, hpy⟩
  · rw [e1] at hidx
    have hf : (xs.filter fun x => !p x) = xs := List.filter_eq_self.2 fun x hx => by rw [hall x hx]; rfl
    rw [hf]
    have HR := Aside0.mk hR
    have HB := Aside0.mk hB
    clear hR hB hp hf hall
    go_enter Tryz.func40, Tryz.ntmps40
    go_wp2_with (go_at_call 59; refine hidx.mono ?_; rintro e w' ⟨rfl, hb'⟩)
    go_ret
    refine ⟨rfl, ?_, below_step HB.out hb', hb'.size⟩
    intro i x hi
    exact RowP.below HR.out (HR.out.lt (by have := (List.getElem?_eq_some_iff.1 hi).1; omega)) hb' i x hi
  · rw [e1] at hidx
    have hlow : (k0 : Int) ≠ -1 := by omega
    have HR := Aside0.mk hR
    have HB := Aside0.mk hB
    have HP := Aside0.mk hp
    have HK := Aside0.mk (KeptRowP.start hk0 hall hy0 hpy)
    clear hR hB hp hall hy0 hpy
    go_enter Tryz.func40, Tryz.ntmps40
    go_wp2_with (go_at_call 59; refine hidx.mono ?_; rintro e w1 ⟨rfl, hb1⟩)
    have hgb := HR.out.lt (by omega)
    have HR1 := Aside0.mk (HR.out.below hgb hb1)
    have HB1 := Aside0.mk (below_step HB.out hb1)
    have HZ := Aside0.mk hb1.size
    have HG := Aside0.mk hgb
    clear hb1 hgb
    go_loopg [5, 6, 7] xs.length (fun gg s5 s6 _ wr => ∃ (i j : Nat) (L : List S37), s5 = .int .i64 i ∧ s6 = .int .i64 j ∧ Aside0 (KeptRowP p xs L i j) ∧ Aside0 (xs.length - j ≤ gg) ∧ Aside0 (RowP wr gb L) ∧ Aside0 (Below w0.heap.size w0 wr) ∧ Aside0 (w.heap.size ≤ wr.heap.size))
    case atStart => exact ⟨k0, k0 + 1, xs, rfl, by go_num, ⟨HK.out⟩, ⟨by omega⟩, ⟨HR1.out⟩, ⟨HB1.out⟩, ⟨HZ.out⟩⟩
    case round =>
      obtain ⟨i, j, L, rfl, rfl, HKk, HM, HRr, HBr, HZr⟩ := hrel
      have hlen := HKk.out.len
      have hij := HKk.out.lt
      have hjn := HKk.out.le
      by_cases hlt : j < xs.length
      · have hltz : (j : Int) < (xs.length : Int) := by omega
        obtain ⟨y, hy⟩ : ∃ y, xs[j]? = some y := ⟨_, List.getElem?_eq_getElem hlt⟩
        have hyL : L[j]? = some y := by rw [HKk.out.high j (Nat.le_refl _)]; exact hy
        obtain ⟨cx0, cx1, cx2, fx0, fx1, fx2⟩ := HRr.out.at0 hyL
        have hcall : ∀ W, Below w0.heap.size w0 W → Calls Tryz.prog g (#[.agg #[.int .i64 y.f0, .int .i64 y.f1, .string y.f2]] ++ lb) W fun e w' => e = .returned (.bool (p y)) ∧ Below W.heap.size W w' := fun W h => HP.out W y h
        cases hq : p y with
        | true =>
          rw [hq] at hcall
          go_wp2_with (go_at_fn g; refine (hcall _ (below_alloc HBr.out _)).mono ?_; rintro e w' ⟨rfl, hb'⟩)
          have hgr : gb < wr.heap.size := by have := HG.out; have := HZr.out; omega
          have hbA : Below wr.heap.size wr w' := below_step (below_alloc (Below.refl _ wr) _) hb'
          go_roundg (xs.length - (j + 1))
          case measure => have := HM.out; omega
          case rel => exact ⟨i, j + 1, L, rfl, by go_num, ⟨HKk.out.skip hy hq⟩, ⟨Nat.le_refl _⟩, ⟨HRr.out.below hgr hbA⟩, ⟨below_step HBr.out hbA⟩, ⟨Nat.le_trans HZr.out hbA.size⟩⟩
        | false =>
          rw [hq] at hcall
          have hgr : gb < wr.heap.size := by have := HG.out; have := HZr.out; omega
          have hiL : i < L.length := by omega
          have hltI : (i : Int) < (xs.length : Int) := by omega
          go_wp2_with (go_at_fn g; refine (hcall _ (below_alloc HBr.out _)).mono ?_; rintro e w' ⟨rfl, hb'⟩; have hbA : Below wr.heap.size wr w' := below_step (below_alloc (Below.refl _ wr) _) hb'; have HRn := Aside0.mk (HRr.out.below hgr hbA); obtain ⟨dx0, dx1, dx2, gx0, gx1, gx2⟩ := HRn.out.at0 (List.getElem?_eq_getElem hiL); have vx0 := (hb'.cell (p := ⟨wr.heap.size, 0, none⟩) (by simp)).trans (show _ = some _ by simp; rfl); have vx1 := (hb'.cell (p := ⟨wr.heap.size, 1, none⟩) (by simp)).trans (show _ = some _ by simp; rfl); have vx2 := (hb'.cell (p := ⟨wr.heap.size, 2, none⟩) (by simp)).trans (show _ = some _ by simp; rfl))
          have hRs := HRn.out.set i hiL y
          have hws : (((w'.setCell ⟨gb, i * 3, none⟩ (.int .i64 y.f0)).setCell ⟨gb, i * 3 + 1, none⟩ (.int .i64 y.f1)).setCell ⟨gb, i * 3 + 2, none⟩ (.string y.f2)) = w'.setCells gb (i * 3) (enc37 y) := rfl
          rw [hws]
          have hbS := below_sets h0 (enc37 y) (i * 3) (below_step HBr.out hbA)
          have hzS : (w'.setCells gb (i * 3) (enc37 y)).heap.size = w'.heap.size := (setCells_same gb (enc37 y) (i * 3) w').2.2.2
          go_roundg (xs.length - (j + 1))
          case measure => have := HM.out; omega
          case rel => exact ⟨i + 1, j + 1, L.set i y, by go_num, by go_num, ⟨HKk.out.keep hy hq⟩, ⟨Nat.le_refl _⟩, ⟨hRs⟩, ⟨hbS⟩, ⟨by rw [hzS]; exact Nat.le_trans HZr.out hbA.size⟩⟩
      · obtain rfl : j = xs.length := by omega
        have hltz : ¬ (xs.length : Int) < (xs.length : Int) := by omega
        obtain ⟨vs, hcl⟩ := run_clearRowP wr gb i (xs.length - i) (cap - i) L HRr.out (by omega) (by omega)
        have hlow2 := HKk.out.low
        rw [List.take_of_length_le (Nat.le_refl _)] at hlow2
        have hfl : (xs.filter fun x => !p x).length = i := by rw [← hlow2, List.length_take]; omega
        have HL := Aside0.mk hlow2
        have HF := Aside0.mk hfl
        clear hlow2 hfl
        go_wp2
        go_ret
        rw [HF.out, ← HL.out]
        refine ⟨rfl, HRr.out.cut i vs, below_sets h0 vs (i * 3) HBr.out, ?_⟩
        rw [(setCells_same gb vs (i * 3) wr).2.2.2]
        exact HZr.out
theorem info37U : (Tryz.prog.info? 37).map (fun i => (i.zero, i.size, i.bytes)) = some (some (.agg #[(.int .i64 0), (.int .i64 0), (.string (⟨#[]⟩ : ByteArray))]), 3, 32) := by kernel_rfl
theorem ownRowP_parts {w : World} {base g n cap : Nat} {xs : List S37} (h : Kd.R k37 37 w base (fun _ => True) (.slice (some ⟨g, 0, none⟩) n cap) xs) : n = xs.length ∧ base ≤ g ∧ xs.length ≤ cap ∧ cap ≤ maxLen ∧ RowP w g xs ∧ ∃ cur, w.heap[g]? = some (.cells cur 37 (0, 0)) ∧ cur.size = cap * 3 := by
  obtain ⟨_, inner, ⟨hlen, hor⟩, hreps⟩ := h
  replace hreps : Reps _ 3 xs inner := hreps
  rcases hor with ⟨e, _⟩ | ⟨g', cap', cur, e, hg, hh, hnc, hcm, hsz, htk⟩
  · simp at e
  · replace hsz : cur.size = cap' * 3 := hsz
    replace htk : cur.toList.take (xs.length * 3) = inner := htk
    simp only [Value.slice.injEq, Option.some.injEq, Addr.mk.injEq, and_true, true_and] at e
    obtain ⟨rfl, rfl, rfl⟩ := e
    refine ⟨rfl, hg, hnc, hcm, ?_, cur, hh, hsz⟩
    intro i x hx j u hu
    have hi := (List.getElem?_eq_some_iff.1 hx).1
    have hj : j < 3 := by have := (List.getElem?_eq_some_iff.1 hu).1; simpa [enc37] using this
    have hM := k37_openM (hreps.2 i x hx)
    have e1 : ((inner.drop (i * 3)).take 3)[j]? = some u := by rw [hM]; exact hu
    rw [List.getElem?_take, if_pos hj, List.getElem?_drop, ← htk, List.getElem?_take, if_pos (by omega)] at e1
    have e2 : cur[i * 3 + j]? = some u := by rw [← Array.getElem?_toList]; exact e1
    exact ⟨by simp [World.cell?, hh, e2], by simp [World.frozen?, hh]⟩
set_option maxHeartbeats 4000000 in
set_option maxRecDepth 100000 in
/-- slices.Clone at ranges. -/
theorem clone_RowP (xs : List S37) (A : Option Addr) (c : Nat) (w : World) (hC : Kd.C k37 w A xs.length xs) (hl : xs.length * 32 ≤ 140737488355328) :
    Calls Tryz.prog 41 #[.slice A xs.length c] w fun e w' => (A = none ∧ e = .returned (.slice none 0 0) ∧ w' = w) ∨ A ≠ none ∧ ∃ g cap, e = .returned (.slice (some ⟨g, 0, none⟩) xs.length cap) ∧ w.heap.size ≤ g ∧ g < w'.heap.size ∧ xs.length ≤ cap ∧ RowP w' g xs ∧ Below w.heap.size w w' := by
  cases A with
  | none =>
    clear hC
    have qS : ∀ (w : World) (a : Option Addr) (n c n' c' : Nat), (binOp .eql 22 (.slice a n c) (.slice none n' c')).run Tryz.prog w = .ok (.bool a.isNone) w := fun w a n c n' c' => Go.Lib.run_eql_slice_nil w _ _ a n c n' c' Tryz.underlying22
    have uS : ∀ w, Sem.run Tryz.prog (underlying 22) w = .ok (TypeDesc.slice 37) w := run_underlying Tryz.underlying22
    go_enter Tryz.func41, Tryz.ntmps41
    go_wp2
    go_ret
    first | exact .inl ⟨rfl, rfl, rfl⟩ | simp
  | some ad =>
    obtain ⟨inner, hrep, hcells⟩ := ReadsRow.inner_ hC
    replace hrep : Reps (k37.K w) 3 xs inner := hrep
    have hlen := hrep.1
    have hone : ∀ u ∈ inner, u.oneCell' = true := by
      intro u hu
      obtain ⟨t, ht, e⟩ := List.getElem_of_mem hu
      have hk : t / 3 < xs.length := by omega
      have hK := k37_open (hrep.2 (t / 3) _ (List.getElem?_eq_getElem hk))
      have e1 : ((inner.drop (t / 3 * 3)).take 3)[t % 3]? = some u := by rw [List.getElem?_take, if_pos (by omega), List.getElem?_drop, show t / 3 * 3 + t % 3 = t by omega, List.getElem?_eq_getElem ht, e]
      rw [hK] at e1
      have h3 : t % 3 = 0 ∨ t % 3 = 1 ∨ t % 3 = 2 := by omega
      rcases h3 with q | q | q <;> rw [q] at e1 <;> (obtain rfl := Option.some.inj e1) <;> rfl
    have HI := Aside0.mk hrep
    have HC := Aside0.mk hcells
    have HL := Aside0.mk hlen
    have H1 := Aside0.mk hone
    obtain ⟨i0, hi, hz0, hz1, hz2⟩ := info_parts info37U
    clear hC hrep hcells hone hlen
    have qS : ∀ (w : World) (a : Option Addr) (n c n' c' : Nat), (binOp .eql 22 (.slice a n c) (.slice none n' c')).run Tryz.prog w = .ok (.bool a.isNone) w := fun w a n c n' c' => Go.Lib.run_eql_slice_nil w _ _ a n c n' c' Tryz.underlying22
    have uS : ∀ w, Sem.run Tryz.prog (underlying 22) w = .ok (TypeDesc.slice 37) w := run_underlying Tryz.underlying22
    go_enter Tryz.func41, Tryz.ntmps41
    go_wp2_with (at_builtin; refine wpList_append_own _ rfl _ _ 22 rfl w.heap.size 37 i0 (.agg #[(.int .i64 0), (.int .i64 0), (.string (⟨#[]⟩ : ByteArray))]) 3 32 Tryz.underlying22 hi hz0 hz1 hz2 rfl (by decide) _ _ _ rfl (World.ownsRow_made w #[] 0 (Nat.le_refl _) (Nat.zero_le _) rfl) ad xs.length c inner rfl ?qc1 ?qc2 ?qc3 ?qc4 ?qc5 ?qc6 ?_)
    case qc1 => exact HL.out
    case qc2 => intro j u hj; exact Go.Lib.cell?_alloc_some _ (HC.out j u hj)
    case qc3 => exact H1.out
    case qc4 => unfold maxLen; omega
    case qc5 => omega
    case qc6 => simp
    intro v' w1 hown hgrow hnil
    go_wp2
    go_ret
    have hne : v' ≠ .slice none 0 0 := fun e => by first | exact hnil e | (have := (hnil.1 e).1; simp at this)
    have hown2 : w1.ownsRow w.heap.size 37 3 v' xs.length inner := by simpa using hown
    have hR : Kd.R k37 37 w1 w.heap.size (fun _ => True) v' xs := ⟨fun _ _ => trivial, inner, hown2, HI.out.imp_ fun p cs hp => by rw [k37_open hp]; exact k37_mkM _ _ _ p⟩
    have hb : Below w.heap.size w w1 := ((Below.refl _ w).alloc (Nat.le_refl _) _).grown hgrow (by simp) (by intro k hk; simp [Value.ownBlock] at hk; omega)
    rcases hown2.2 with ⟨e, _⟩ | ⟨g, cap, cur, rfl, hg, hh, hnc, _⟩
    · exact absurd e hne
    · obtain ⟨_, _, hcap, _, hrow, _, _, _⟩ := ownRowP_parts hR
      exact .inr ⟨by simp, g, cap, by simp, hg, blk_lt hh, hcap, hrow, hb⟩
end Go.Proofs.YtldlenjfpjihdaaGreat.PS
end
