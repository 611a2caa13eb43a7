/- Part 6 of what the proof of CodeDecodes stands on: words for walks, printed functions with their contracts, plain laws. -/
import Derived.Test.YtpiifdbicibelaaDoorKCodeDecodes4
section
namespace Go.Proofs.YtpiifdbicibelaaDoor.PA
open Go.RowKit Go.Proofs.YtpiifdbicibelaaDoorW.PrintWords Go.Proofs.YtpiifdbicibelaaDoorW.PrintLast Go.Proofs.YtpiifdbicibelaaDoorW.PrintMore
attribute [local go_sem] max2_int min2_int max_two min_two max_three min_three max_four min_four   -- for this text's walks alone
set_option linter.unusedVariables false
set_option linter.unusedSimpArgs false
set_option maxHeartbeats 8000000 in
set_option maxRecDepth 100000 in
theorem vellumref02_back.calls (k : Nat) (a0 : ByteArray) (r1 : Int) (r2 : Int) (r3 : Nat) (r4 : ByteArray) (r5 : Int) (w : World) (h : vellumref02_back.f k a0 = some (r1, r2, r3, r4, r5)) :
  Calls Tryd.prog 73 #[.string a0] w fun e w' => e = .returned (.tuple #[.agg #[.int .i64 r1, .int .i64 r2, .float .f64 r3, .string r4], .int .i64 r5]) ∧ Below w.heap.size w w' := by
 have hu50 := Tryd.underlying50
 have HB := Aside0.mk (Below.refl w.heap.size w)
 have H : (if 0 < (a0.size : Int) then (if (wrap64 ((wrap64 (bt a0 0)) - 1)) = 0 then (some (wrap64 ((wrap64 (bt a0 0)) - 1), 0, 0, (⟨#[]⟩ : ByteArray), 1)) else (if (wrap64 ((wrap64 (bt a0 0)) - 1)) = 1 then (if (a0.size : Int) > 1 then (if 1 < (a0.size : Int) then (vellumref02_back.j0 k a0 (decide ((bt a0 1) < 2)) (wrap64 ((wrap64 (bt a0 0)) - 1)) 0 0 (⟨#[]⟩ : ByteArray)) else (none)) else (vellumref02_back.j0 k a0 false (wrap64 ((wrap64 (bt a0 0)) - 1)) 0 0 (⟨#[]⟩ : ByteArray))) else (vellumref02_back.j0 k a0 false (wrap64 ((wrap64 (bt a0 0)) - 1)) 0 0 (⟨#[]⟩ : ByteArray)))) else (none)) = some (r1, r2, r3, r4, r5) := h
 clear h
 by_cases c2 : 0 < (a0.size : Int)
 ·rw [if_pos c2] at H
  have c2b0 : decide (0 < (a0.size : Int)) = true := decide_eq_true c2
  have c2b1 : decide (0 < a0.size) = true := decide_eq_true (by omega)
  clear c2
  by_cases c4 : (wrap64 ((wrap64 (bt a0 0)) - 1)) = 0
  ·rw [if_pos c4] at H
   have c4b0 : ((wrap64 ((wrap64 (bt a0 0)) - 1)) == 0) = true := beq_iff_eq.mpr c4
   have c4b1 : ((wrap64 ((wrap64 (bt a0 0)) - 1)) != 0) = false := bne_eq_false_iff_eq.mpr c4
   clear c4
   simp only [Option.some.injEq, Prod.mk.injEq] at H
   obtain ⟨rfl, rfl, rfl, rfl, rfl⟩ := H
   go_enter Tryd.func73, Tryd.ntmps73
   go_wp2_with (first | ((with_reducible refine gate_dst (N := 2) rfl ?_); (try (refine gate_guard (by rfl) ?_; dsimp only)); refine box_event ?hg (N := 2) ?hd (cs := #[.int .i64 0, .int .i64 0, .float .f64 0, .string (⟨#[]⟩ : ByteArray)]) (t := 50) ?hr ?_; (case hd => rfl); (case hg => rfl); (case hr => first | (go_simp; done) | (go_simp; rfl)); intro gb509 hg w5 hbox hb; have n0_ := Aside0.mk (below_step (by repeat (first | (with_reducible first | exact HB.out | apply below_alloc | apply pw_below_drewN | apply below_drew1) | exact HB.out)) hb); have n1_ := Aside0.mk (hbox); have n2_ := Aside0.mk ((by rw [hg]; exact (below_size (by repeat (first | (with_reducible first | exact HB.out | apply below_alloc | apply pw_below_drewN | apply below_drew1) | exact HB.out))) : w.heap.size ≤ gb509)); have n3_ := n2_; clear HB; have HB := n0_; have BK509 := n1_; have GW509 := n2_; have GE509 := n3_; clear n0_ n1_ n2_ n3_; clear hb hbox hg; have p3 : 0 ≤ (0 : Int) := (by omega); have q3 : 0 < a0.size := (by have : (0 : Int) < (a0.size : Int) := of_decide_eq_true (by first | (with_reducible assumption) | assumption); omega); have hx3 : ∀ h : 0 < a0.size, ((a0[0]'h).toNat : Int) = bt a0 0 := bt_at a0 0; clear p3; have qi3 : (0 < (a0.size : Int)) = True := eq_true (of_decide_eq_true (by first | (with_reducible assumption) | assumption)); replace q3 := eq_true q3) | ((with_reducible refine gate_dst (N := 4) rfl ?_); (try (refine gate_guard (by rfl) ?_; dsimp only)); refine box_event ?hg (N := 4) ?hd (cs := #[.int .i64 0, .int .i64 0, .float .f64 0, .string (⟨#[]⟩ : ByteArray)]) (t := 50) ?hr ?_; (case hd => rfl); (case hg => rfl); (case hr => first | (go_simp; done) | (go_simp; rfl)); intro gb510 hg w6 hbox hb; have n0_ := Aside0.mk (blk_below (g := gb509) (o := .cells #[.int .i64 0, .int .i64 0, .float .f64 0, .string (⟨#[]⟩ : ByteArray)] 50 (0, 0)) (by (with_reducible repeat (first | refine blk_drewN ?_ _ | refine blk_drew ?_ | refine blk_alloc ?_ _)); exact BK509.out) hb); have n1_ := Aside0.mk (below_step (by repeat (first | (with_reducible first | exact HB.out | apply below_alloc | apply pw_below_drewN | apply below_drew1 | refine below_set ?_ GE509.out) | exact HB.out)) hb); have n2_ := Aside0.mk (hbox); have n3_ := Aside0.mk ((by rw [hg]; exact (below_size (by repeat (first | (with_reducible first | exact HB.out | apply below_alloc | apply pw_below_drewN | apply below_drew1 | refine below_set ?_ GE509.out) | exact HB.out))) : w.heap.size ≤ gb510)); have n4_ := n3_; have n5_ := Aside0.mk ((by rw [hg]; exact Nat.ne_of_lt (blk_lt (g := gb509) (o := .cells #[.int .i64 0, .int .i64 0, .float .f64 0, .string (⟨#[]⟩ : ByteArray)] 50 (0, 0)) (by (with_reducible repeat (first | refine blk_drewN ?_ _ | refine blk_drew ?_ | refine blk_alloc ?_ _)); exact BK509.out)) : gb509 ≠ gb510)); have n6_ := Aside0.mk ((by rw [hg]; exact Nat.ne_of_gt (blk_lt (g := gb509) (o := .cells #[.int .i64 0, .int .i64 0, .float .f64 0, .string (⟨#[]⟩ : ByteArray)] 50 (0, 0)) (by (with_reducible repeat (first | refine blk_drewN ?_ _ | refine blk_drew ?_ | refine blk_alloc ?_ _)); exact BK509.out)) : gb510 ≠ gb509)); clear BK509; clear HB; have BK509 := n0_; have HB := n1_; have BK510 := n2_; have GW510 := n3_; have GE510 := n4_; have NB509_510 := n5_; have NB510_509 := n6_; clear n0_ n1_ n2_ n3_ n4_ n5_ n6_; clear hb hbox hg; have hnb7 := NB510_509.out; have hnc7 := NB509_510.out; have hcz8_0 : w6.cell? ⟨gb510, 0, none⟩ = some (.int .i64 0) := (blk_cell BK510.out 0).trans rfl; have hcz8_1 : w6.cell? ⟨gb510, 1, none⟩ = some (.int .i64 0) := (blk_cell BK510.out 1).trans rfl; have hcz8_2 : w6.cell? ⟨gb510, 2, none⟩ = some (.float .f64 0) := (blk_cell BK510.out 2).trans rfl; have hcz8_3 : w6.cell? ⟨gb510, 3, none⟩ = some (.string (⟨#[]⟩ : ByteArray)) := (blk_cell BK510.out 3).trans rfl; have hfz8_0 := blk_frozen BK510.out 0; have hfz8_1 := blk_frozen BK510.out 1; have hfz8_2 := blk_frozen BK510.out 2; have hfz8_3 := blk_frozen BK510.out 3; have hcz9_0 : w6.cell? ⟨gb509, 0, none⟩ = some (.int .i64 0) := (blk_cell BK509.out 0).trans rfl; have hcz9_1 : w6.cell? ⟨gb509, 1, none⟩ = some (.int .i64 0) := (blk_cell BK509.out 1).trans rfl; have hcz9_2 : w6.cell? ⟨gb509, 2, none⟩ = some (.float .f64 0) := (blk_cell BK509.out 2).trans rfl; have hcz9_3 : w6.cell? ⟨gb509, 3, none⟩ = some (.string (⟨#[]⟩ : ByteArray)) := (blk_cell BK509.out 3).trans rfl; have hfz9_0 := blk_frozen BK509.out 0; have hfz9_1 := blk_frozen BK509.out 1; have hfz9_2 := blk_frozen BK509.out 2; have hfz9_3 := blk_frozen BK509.out 3))
   refine bodyPost_ret (results_ct rfl _ _ gb509 50 #[.int .i64 (wrap64 ((wrap64 (bt a0 0)) - 1)), .int .i64 0, .float .f64 0, .string (⟨#[]⟩ : ByteArray)] (0, 0) _ rfl (by (with_reducible repeat (first | refine blk_drewN ?_ _ | refine blk_drew ?_ | refine blk_alloc ?_ _)); refine blk_put (cs := #[.int .i64 (wrap64 ((wrap64 (bt a0 0)) - 1)), .int .i64 0, .float .f64 0, .string (⟨#[]⟩ : ByteArray)]) ?_ 3 _ rfl; (with_reducible repeat (first | refine blk_drewN ?_ _ | refine blk_drew ?_ | refine blk_alloc ?_ _)); refine blk_put (cs := #[.int .i64 (wrap64 ((wrap64 (bt a0 0)) - 1)), .int .i64 0, .float .f64 0, .string (⟨#[]⟩ : ByteArray)]) ?_ 2 _ rfl; (with_reducible repeat (first | refine blk_drewN ?_ _ | refine blk_drew ?_ | refine blk_alloc ?_ _)); refine blk_put (cs := #[.int .i64 (wrap64 ((wrap64 (bt a0 0)) - 1)), .int .i64 0, .float .f64 0, .string (⟨#[]⟩ : ByteArray)]) ?_ 1 _ rfl; (with_reducible repeat (first | refine blk_drewN ?_ _ | refine blk_drew ?_ | refine blk_alloc ?_ _)); refine blk_put (cs := #[.int .i64 0, .int .i64 0, .float .f64 0, .string (⟨#[]⟩ : ByteArray)]) ?_ 0 _ rfl; (with_reducible repeat (first | refine blk_drewN ?_ _ | refine blk_drew ?_ | refine blk_alloc ?_ _)); refine blk_far ?_ NB509_510.out _; (with_reducible repeat (first | refine blk_drewN ?_ _ | refine blk_drew ?_ | refine blk_alloc ?_ _)); refine blk_far ?_ NB509_510.out _; (with_reducible repeat (first | refine blk_drewN ?_ _ | refine blk_drew ?_ | refine blk_alloc ?_ _)); refine blk_far ?_ NB509_510.out _; (with_reducible repeat (first | refine blk_drewN ?_ _ | refine blk_drew ?_ | refine blk_alloc ?_ _)); refine blk_far ?_ NB509_510.out _; (with_reducible repeat (first | refine blk_drewN ?_ _ | refine blk_drew ?_ | refine blk_alloc ?_ _)); exact BK509.out) Tryd.underlying50 rfl (by kernel_rfl)) rfl ?_
   exact ⟨by first | rfl | (simp [errW_none, errW_some] <;> rfl) | (simp [*, errW_none, errW_some] <;> rfl), by repeat (first | (with_reducible first | exact HB.out | apply below_alloc | apply pw_below_drewN | apply below_drew1 | refine below_set ?_ GE509.out | refine below_set ?_ GE510.out) | exact HB.out)⟩
  ·rw [if_neg c4] at H
   have c4b0 : ((wrap64 ((wrap64 (bt a0 0)) - 1)) == 0) = false := beq_eq_false_iff_ne.mpr c4
   have c4b1 : ((wrap64 ((wrap64 (bt a0 0)) - 1)) != 0) = true := bne_iff_ne.mpr c4
   have HC10 := Aside0.mk H
   clear H
   go_enter Tryd.func73, Tryd.ntmps73
   go_upto_region 4 with (first | ((with_reducible refine gate_dst (N := 2) rfl ?_); (try (refine gate_guard (by rfl) ?_; dsimp only)); refine box_event ?hg (N := 2) ?hd (cs := #[.int .i64 0, .int .i64 0, .float .f64 0, .string (⟨#[]⟩ : ByteArray)]) (t := 50) ?hr ?_; (case hd => rfl); (case hg => rfl); (case hr => first | (go_simp; done) | (go_simp; rfl)); intro gb509 hg w11 hbox hb; have n0_ := Aside0.mk (below_step (by repeat (first | (with_reducible first | exact HB.out | apply below_alloc | apply pw_below_drewN | apply below_drew1) | exact HB.out)) hb); have n1_ := Aside0.mk (hbox); have n2_ := Aside0.mk ((by rw [hg]; exact (below_size (by repeat (first | (with_reducible first | exact HB.out | apply below_alloc | apply pw_below_drewN | apply below_drew1) | exact HB.out))) : w.heap.size ≤ gb509)); have n3_ := n2_; clear HB; have HB := n0_; have BK509 := n1_; have GW509 := n2_; have GE509 := n3_; clear n0_ n1_ n2_ n3_; clear hb hbox hg; have p3 : 0 ≤ (0 : Int) := (by omega); have q3 : 0 < a0.size := (by have : (0 : Int) < (a0.size : Int) := of_decide_eq_true (by first | (with_reducible assumption) | assumption); omega); have hx3 : ∀ h : 0 < a0.size, ((a0[0]'h).toNat : Int) = bt a0 0 := bt_at a0 0; clear p3; have qi3 : (0 < (a0.size : Int)) = True := eq_true (of_decide_eq_true (by first | (with_reducible assumption) | assumption)); replace q3 := eq_true q3) | ((with_reducible refine gate_dst (N := 4) rfl ?_); (try (refine gate_guard (by rfl) ?_; dsimp only)); refine box_event ?hg (N := 4) ?hd (cs := #[.int .i64 0, .int .i64 0, .float .f64 0, .string (⟨#[]⟩ : ByteArray)]) (t := 50) ?hr ?_; (case hd => rfl); (case hg => rfl); (case hr => first | (go_simp; done) | (go_simp; rfl)); intro gb510 hg w12 hbox hb; have n0_ := Aside0.mk (blk_below (g := gb509) (o := .cells #[.int .i64 0, .int .i64 0, .float .f64 0, .string (⟨#[]⟩ : ByteArray)] 50 (0, 0)) (by (with_reducible repeat (first | refine blk_drewN ?_ _ | refine blk_drew ?_ | refine blk_alloc ?_ _)); exact BK509.out) hb); have n1_ := Aside0.mk (below_step (by repeat (first | (with_reducible first | exact HB.out | apply below_alloc | apply pw_below_drewN | apply below_drew1 | refine below_set ?_ GE509.out) | exact HB.out)) hb); have n2_ := Aside0.mk (hbox); have n3_ := Aside0.mk ((by rw [hg]; exact (below_size (by repeat (first | (with_reducible first | exact HB.out | apply below_alloc | apply pw_below_drewN | apply below_drew1 | refine below_set ?_ GE509.out) | exact HB.out))) : w.heap.size ≤ gb510)); have n4_ := n3_; have n5_ := Aside0.mk ((by rw [hg]; exact Nat.ne_of_lt (blk_lt (g := gb509) (o := .cells #[.int .i64 0, .int .i64 0, .float .f64 0, .string (⟨#[]⟩ : ByteArray)] 50 (0, 0)) (by (with_reducible repeat (first | refine blk_drewN ?_ _ | refine blk_drew ?_ | refine blk_alloc ?_ _)); exact BK509.out)) : gb509 ≠ gb510)); have n6_ := Aside0.mk ((by rw [hg]; exact Nat.ne_of_gt (blk_lt (g := gb509) (o := .cells #[.int .i64 0, .int .i64 0, .float .f64 0, .string (⟨#[]⟩ : ByteArray)] 50 (0, 0)) (by (with_reducible repeat (first | refine blk_drewN ?_ _ | refine blk_drew ?_ | refine blk_alloc ?_ _)); exact BK509.out)) : gb510 ≠ gb509)); clear BK509; clear HB; have BK509 := n0_; have HB := n1_; have BK510 := n2_; have GW510 := n3_; have GE510 := n4_; have NB509_510 := n5_; have NB510_509 := n6_; clear n0_ n1_ n2_ n3_ n4_ n5_ n6_; clear hb hbox hg; have hnb13 := NB510_509.out; have hnc13 := NB509_510.out; have hcz14_0 : w12.cell? ⟨gb510, 0, none⟩ = some (.int .i64 0) := (blk_cell BK510.out 0).trans rfl; have hcz14_1 : w12.cell? ⟨gb510, 1, none⟩ = some (.int .i64 0) := (blk_cell BK510.out 1).trans rfl; have hcz14_2 : w12.cell? ⟨gb510, 2, none⟩ = some (.float .f64 0) := (blk_cell BK510.out 2).trans rfl; have hcz14_3 : w12.cell? ⟨gb510, 3, none⟩ = some (.string (⟨#[]⟩ : ByteArray)) := (blk_cell BK510.out 3).trans rfl; have hfz14_0 := blk_frozen BK510.out 0; have hfz14_1 := blk_frozen BK510.out 1; have hfz14_2 := blk_frozen BK510.out 2; have hfz14_3 := blk_frozen BK510.out 3))
   (try simp only [Act.put, List.setIfInBounds_toArray, List.set_cons_zero, List.set_cons_succ])
   go_cut [21] (fun v21 wc => ∃ (kq : Nat) (x21_9 : Bool), v21 = .bool x21_9 ∧ Aside0 (vellumref02_back.j0 kq a0 x21_9 (wrap64 ((wrap64 (bt a0 0)) - 1)) 0 0 (⟨#[]⟩ : ByteArray) = some (r1, r2, r3, r4, r5)) ∧ Aside0 (kq ≤ k) ∧ Aside0 (wc.heap[gb509]? = some (.cells #[.int .i64 0, .int .i64 0, .float .f64 0, .string (⟨#[]⟩ : ByteArray)] 50 (0, 0))) ∧ Aside0 (wc.heap[gb510]? = some (.cells #[.int .i64 (wrap64 ((wrap64 (bt a0 0)) - 1)), .int .i64 0, .float .f64 0, .string (⟨#[]⟩ : ByteArray)] 50 (0, 0))) ∧ Aside0 (Below w.heap.size w wc))
   case first =>
    have H := HC10.out
    clear HC10
    by_cases c15 : (wrap64 ((wrap64 (bt a0 0)) - 1)) = 1
    ·rw [if_pos c15] at H
     have c15b0 : ((wrap64 ((wrap64 (bt a0 0)) - 1)) == 1) = true := beq_iff_eq.mpr c15
     have c15b1 : ((wrap64 ((wrap64 (bt a0 0)) - 1)) != 1) = false := bne_eq_false_iff_eq.mpr c15
     clear c15
     (first | rw [c15b0] | (simp only [i64_w, i32_w]; rw [c15b0]) | skip)
     by_cases c16 : (a0.size : Int) > 1
     ·rw [if_pos c16] at H
      have c16b0 : decide (1 < (a0.size : Int)) = true := decide_eq_true c16
      have c16b1 : decide (1 < a0.size) = true := decide_eq_true (by omega)
      clear c16
      by_cases c17 : 1 < (a0.size : Int)
      ·rw [if_pos c17] at H
       have c17b0 : decide (1 < (a0.size : Int)) = true := decide_eq_true c17
       have c17b1 : decide (1 < a0.size) = true := decide_eq_true (by omega)
       clear c17
       have H' := Aside0.mk H
       clear H
       have hnb19 := NB510_509.out
       have hnc19 := NB509_510.out
       have hcz20_0 : w12.cell? ⟨gb510, 0, none⟩ = some (.int .i64 0) := (blk_cell BK510.out 0).trans rfl
       have hcz20_1 : w12.cell? ⟨gb510, 1, none⟩ = some (.int .i64 0) := (blk_cell BK510.out 1).trans rfl
       have hcz20_2 : w12.cell? ⟨gb510, 2, none⟩ = some (.float .f64 0) := (blk_cell BK510.out 2).trans rfl
       have hcz20_3 : w12.cell? ⟨gb510, 3, none⟩ = some (.string (⟨#[]⟩ : ByteArray)) := (blk_cell BK510.out 3).trans rfl
       have hfz20_0 := blk_frozen BK510.out 0
       have hfz20_1 := blk_frozen BK510.out 1
       have hfz20_2 := blk_frozen BK510.out 2
       have hfz20_3 := blk_frozen BK510.out 3
       have p18 : 0 ≤ (1 : Int) := (by omega)
       have q18 : 1 < a0.size := (by have : (1 : Int) < (a0.size : Int) := of_decide_eq_true (by first | (with_reducible assumption) | assumption); omega)
       have hx18 : ∀ h : 1 < a0.size, ((a0[1]'h).toNat : Int) = bt a0 1 := bt_at a0 1
       clear p18
       have qi18 : (1 < (a0.size : Int)) = True := eq_true (of_decide_eq_true (by first | (with_reducible assumption) | assumption))
       replace q18 := eq_true q18
       go_wp2
       go_meet
       case rel => exact ⟨_, (decide ((bt a0 1) < 2)), (by first | rfl | (simp; done) | (simp [*]; done) | (simp [bool_ne_nil]; done) | (simp; exact bool_ne_nil _)), H', ⟨by first | omega | exact Nat.le_refl _⟩, ⟨by (with_reducible repeat (first | refine blk_drewN ?_ _ | refine blk_drew ?_ | refine blk_alloc ?_ _)); refine blk_far ?_ NB509_510.out _; (with_reducible repeat (first | refine blk_drewN ?_ _ | refine blk_drew ?_ | refine blk_alloc ?_ _)); refine blk_far ?_ NB509_510.out _; (with_reducible repeat (first | refine blk_drewN ?_ _ | refine blk_drew ?_ | refine blk_alloc ?_ _)); refine blk_far ?_ NB509_510.out _; (with_reducible repeat (first | refine blk_drewN ?_ _ | refine blk_drew ?_ | refine blk_alloc ?_ _)); refine blk_far ?_ NB509_510.out _; (with_reducible repeat (first | refine blk_drewN ?_ _ | refine blk_drew ?_ | refine blk_alloc ?_ _)); exact BK509.out⟩, ⟨by (with_reducible repeat (first | refine blk_drewN ?_ _ | refine blk_drew ?_ | refine blk_alloc ?_ _)); refine blk_put (cs := #[.int .i64 (wrap64 ((wrap64 (bt a0 0)) - 1)), .int .i64 0, .float .f64 0, .string (⟨#[]⟩ : ByteArray)]) ?_ 3 _ rfl; (with_reducible repeat (first | refine blk_drewN ?_ _ | refine blk_drew ?_ | refine blk_alloc ?_ _)); refine blk_put (cs := #[.int .i64 (wrap64 ((wrap64 (bt a0 0)) - 1)), .int .i64 0, .float .f64 0, .string (⟨#[]⟩ : ByteArray)]) ?_ 2 _ rfl; (with_reducible repeat (first | refine blk_drewN ?_ _ | refine blk_drew ?_ | refine blk_alloc ?_ _)); refine blk_put (cs := #[.int .i64 (wrap64 ((wrap64 (bt a0 0)) - 1)), .int .i64 0, .float .f64 0, .string (⟨#[]⟩ : ByteArray)]) ?_ 1 _ rfl; (with_reducible repeat (first | refine blk_drewN ?_ _ | refine blk_drew ?_ | refine blk_alloc ?_ _)); refine blk_put (cs := #[.int .i64 0, .int .i64 0, .float .f64 0, .string (⟨#[]⟩ : ByteArray)]) ?_ 0 _ rfl; (with_reducible repeat (first | refine blk_drewN ?_ _ | refine blk_drew ?_ | refine blk_alloc ?_ _)); exact BK510.out⟩, ⟨by repeat (first | (with_reducible first | exact HB.out | apply below_alloc | apply pw_below_drewN | apply below_drew1 | refine below_set ?_ GE509.out | refine below_set ?_ GE510.out) | exact HB.out)⟩⟩
      ·rw [if_neg c17] at H
       exact absurd H (by simp)
     ·rw [if_neg c16] at H
      have c16b0 : decide (1 < (a0.size : Int)) = false := decide_eq_false c16
      have c16b1 : decide (1 < a0.size) = false := decide_eq_false (by omega)
      clear c16
      have H' := Aside0.mk H
      clear H
      have hnb21 := NB510_509.out
      have hnc21 := NB509_510.out
      have hcz22_0 : w12.cell? ⟨gb510, 0, none⟩ = some (.int .i64 0) := (blk_cell BK510.out 0).trans rfl
      have hcz22_1 : w12.cell? ⟨gb510, 1, none⟩ = some (.int .i64 0) := (blk_cell BK510.out 1).trans rfl
      have hcz22_2 : w12.cell? ⟨gb510, 2, none⟩ = some (.float .f64 0) := (blk_cell BK510.out 2).trans rfl
      have hcz22_3 : w12.cell? ⟨gb510, 3, none⟩ = some (.string (⟨#[]⟩ : ByteArray)) := (blk_cell BK510.out 3).trans rfl
      have hfz22_0 := blk_frozen BK510.out 0
      have hfz22_1 := blk_frozen BK510.out 1
      have hfz22_2 := blk_frozen BK510.out 2
      have hfz22_3 := blk_frozen BK510.out 3
      go_wp2
      go_meet
      case rel => exact ⟨_, (false), (by first | rfl | (simp; done) | (simp [*]; done) | (simp [bool_ne_nil]; done) | (simp; exact bool_ne_nil _)), H', ⟨by first | omega | exact Nat.le_refl _⟩, ⟨by (with_reducible repeat (first | refine blk_drewN ?_ _ | refine blk_drew ?_ | refine blk_alloc ?_ _)); refine blk_far ?_ NB509_510.out _; (with_reducible repeat (first | refine blk_drewN ?_ _ | refine blk_drew ?_ | refine blk_alloc ?_ _)); refine blk_far ?_ NB509_510.out _; (with_reducible repeat (first | refine blk_drewN ?_ _ | refine blk_drew ?_ | refine blk_alloc ?_ _)); refine blk_far ?_ NB509_510.out _; (with_reducible repeat (first | refine blk_drewN ?_ _ | refine blk_drew ?_ | refine blk_alloc ?_ _)); refine blk_far ?_ NB509_510.out _; (with_reducible repeat (first | refine blk_drewN ?_ _ | refine blk_drew ?_ | refine blk_alloc ?_ _)); exact BK509.out⟩, ⟨by (with_reducible repeat (first | refine blk_drewN ?_ _ | refine blk_drew ?_ | refine blk_alloc ?_ _)); refine blk_put (cs := #[.int .i64 (wrap64 ((wrap64 (bt a0 0)) - 1)), .int .i64 0, .float .f64 0, .string (⟨#[]⟩ : ByteArray)]) ?_ 3 _ rfl; (with_reducible repeat (first | refine blk_drewN ?_ _ | refine blk_drew ?_ | refine blk_alloc ?_ _)); refine blk_put (cs := #[.int .i64 (wrap64 ((wrap64 (bt a0 0)) - 1)), .int .i64 0, .float .f64 0, .string (⟨#[]⟩ : ByteArray)]) ?_ 2 _ rfl; (with_reducible repeat (first | refine blk_drewN ?_ _ | refine blk_drew ?_ | refine blk_alloc ?_ _)); refine blk_put (cs := #[.int .i64 (wrap64 ((wrap64 (bt a0 0)) - 1)), .int .i64 0, .float .f64 0, .string (⟨#[]⟩ : ByteArray)]) ?_ 1 _ rfl; (with_reducible repeat (first | refine blk_drewN ?_ _ | refine blk_drew ?_ | refine blk_alloc ?_ _)); refine blk_put (cs := #[.int .i64 0, .int .i64 0, .float .f64 0, .string (⟨#[]⟩ : ByteArray)]) ?_ 0 _ rfl; (with_reducible repeat (first | refine blk_drewN ?_ _ | refine blk_drew ?_ | refine blk_alloc ?_ _)); exact BK510.out⟩, ⟨by repeat (first | (with_reducible first | exact HB.out | apply below_alloc | apply pw_below_drewN | apply below_drew1 | refine below_set ?_ GE509.out | refine below_set ?_ GE510.out) | exact HB.out)⟩⟩
    ·rw [if_neg c15] at H
     have c15b0 : ((wrap64 ((wrap64 (bt a0 0)) - 1)) == 1) = false := beq_eq_false_iff_ne.mpr c15
     have c15b1 : ((wrap64 ((wrap64 (bt a0 0)) - 1)) != 1) = true := bne_iff_ne.mpr c15
     (first | rw [c15b0] | (simp only [i64_w, i32_w]; rw [c15b0]) | skip)
     have H' := Aside0.mk H
     clear H
     have hnb23 := NB510_509.out
     have hnc23 := NB509_510.out
     have hcz24_0 : w12.cell? ⟨gb510, 0, none⟩ = some (.int .i64 0) := (blk_cell BK510.out 0).trans rfl
     have hcz24_1 : w12.cell? ⟨gb510, 1, none⟩ = some (.int .i64 0) := (blk_cell BK510.out 1).trans rfl
     have hcz24_2 : w12.cell? ⟨gb510, 2, none⟩ = some (.float .f64 0) := (blk_cell BK510.out 2).trans rfl
     have hcz24_3 : w12.cell? ⟨gb510, 3, none⟩ = some (.string (⟨#[]⟩ : ByteArray)) := (blk_cell BK510.out 3).trans rfl
     have hfz24_0 := blk_frozen BK510.out 0
     have hfz24_1 := blk_frozen BK510.out 1
     have hfz24_2 := blk_frozen BK510.out 2
     have hfz24_3 := blk_frozen BK510.out 3
     go_wp2
     go_meet
     case rel => exact ⟨_, (false), (by first | rfl | (simp; done) | (simp [*]; done) | (simp [bool_ne_nil]; done) | (simp; exact bool_ne_nil _)), H', ⟨by first | omega | exact Nat.le_refl _⟩, ⟨by (with_reducible repeat (first | refine blk_drewN ?_ _ | refine blk_drew ?_ | refine blk_alloc ?_ _)); refine blk_far ?_ NB509_510.out _; (with_reducible repeat (first | refine blk_drewN ?_ _ | refine blk_drew ?_ | refine blk_alloc ?_ _)); refine blk_far ?_ NB509_510.out _; (with_reducible repeat (first | refine blk_drewN ?_ _ | refine blk_drew ?_ | refine blk_alloc ?_ _)); refine blk_far ?_ NB509_510.out _; (with_reducible repeat (first | refine blk_drewN ?_ _ | refine blk_drew ?_ | refine blk_alloc ?_ _)); refine blk_far ?_ NB509_510.out _; (with_reducible repeat (first | refine blk_drewN ?_ _ | refine blk_drew ?_ | refine blk_alloc ?_ _)); exact BK509.out⟩, ⟨by (with_reducible repeat (first | refine blk_drewN ?_ _ | refine blk_drew ?_ | refine blk_alloc ?_ _)); refine blk_put (cs := #[.int .i64 (wrap64 ((wrap64 (bt a0 0)) - 1)), .int .i64 0, .float .f64 0, .string (⟨#[]⟩ : ByteArray)]) ?_ 3 _ rfl; (with_reducible repeat (first | refine blk_drewN ?_ _ | refine blk_drew ?_ | refine blk_alloc ?_ _)); refine blk_put (cs := #[.int .i64 (wrap64 ((wrap64 (bt a0 0)) - 1)), .int .i64 0, .float .f64 0, .string (⟨#[]⟩ : ByteArray)]) ?_ 2 _ rfl; (with_reducible repeat (first | refine blk_drewN ?_ _ | refine blk_drew ?_ | refine blk_alloc ?_ _)); refine blk_put (cs := #[.int .i64 (wrap64 ((wrap64 (bt a0 0)) - 1)), .int .i64 0, .float .f64 0, .string (⟨#[]⟩ : ByteArray)]) ?_ 1 _ rfl; (with_reducible repeat (first | refine blk_drewN ?_ _ | refine blk_drew ?_ | refine blk_alloc ?_ _)); refine blk_put (cs := #[.int .i64 0, .int .i64 0, .float .f64 0, .string (⟨#[]⟩ : ByteArray)]) ?_ 0 _ rfl; (with_reducible repeat (first | refine blk_drewN ?_ _ | refine blk_drew ?_ | refine blk_alloc ?_ _)); exact BK510.out⟩, ⟨by repeat (first | (with_reducible first | exact HB.out | apply below_alloc | apply pw_below_drewN | apply below_drew1 | refine below_set ?_ GE509.out | refine below_set ?_ GE510.out) | exact HB.out)⟩⟩
   case rest =>
    clear HC10
    (try clear c1); (try clear p1); (try clear q1); (try clear hx1); (try clear qi1); (try clear c2); (try clear c2b0); (try clear c2b1); (try clear p2); (try clear p3); (try clear q3); (try clear hx3); (try clear qi3); (try clear c4); (try clear c4b0); (try clear c4b1); (try clear p6); (try clear c7); (try clear c13); (try clear c15); (try clear c15b0); (try clear c15b1); (try clear c16); (try clear c16b0); (try clear c16b1); (try clear c17); (try clear c17b0); (try clear c17b1); (try clear p18); (try clear q18); (try clear hx18); (try clear qi18); (try clear c19); (try clear c21); (try clear c23); (try clear hcz14_0); (try clear hcz14_1); (try clear hcz14_2); (try clear hcz14_3); (try clear hcz20_0); (try clear hcz20_1); (try clear hcz20_2); (try clear hcz20_3); (try clear hcz22_0); (try clear hcz22_1); (try clear hcz22_2); (try clear hcz22_3); (try clear hcz24_0); (try clear hcz24_1); (try clear hcz24_2); (try clear hcz24_3); (try clear hcz8_0); (try clear hcz8_1); (try clear hcz8_2); (try clear hcz8_3); (try clear hcz9_0); (try clear hcz9_1); (try clear hcz9_2); (try clear hcz9_3); (try clear hfz14_0); (try clear hfz14_1); (try clear hfz14_2); (try clear hfz14_3); (try clear hfz20_0); (try clear hfz20_1); (try clear hfz20_2); (try clear hfz20_3); (try clear hfz22_0); (try clear hfz22_1); (try clear hfz22_2); (try clear hfz22_3); (try clear hfz24_0); (try clear hfz24_1); (try clear hfz24_2); (try clear hfz24_3); (try clear hfz8_0); (try clear hfz8_1); (try clear hfz8_2); (try clear hfz8_3); (try clear hfz9_0); (try clear hfz9_1); (try clear hfz9_2); (try clear hfz9_3); (try clear p18); (try clear p3); (try clear q18); (try clear q3)
    obtain ⟨kq, x21_9, rfl, HA, HJ9, BK509, BK510, HB⟩ := hcut
    cases kq with
    | zero => exact absurd HA.out (by simp [vellumref02_back.j0])
    | succ kj9 =>
     have H := HA.out
     clear HA
     simp only [vellumref02_back.j0] at H
     by_cases c25 : x21_9 = true
     ·subst c25
      have H1 : (if 1 < (a0.size : Int) then (some ((wrap64 ((wrap64 (bt a0 0)) - 1)), wrap64 (bt a0 1), 0, (⟨#[]⟩ : ByteArray), 2)) else (none)) = some (r1, r2, r3, r4, r5) := by rw [if_pos rfl] at H; exact H
      clear H
      have H := H1
      clear H1
      by_cases c26 : 1 < (a0.size : Int)
      ·rw [if_pos c26] at H
       have c26b0 : decide (1 < (a0.size : Int)) = true := decide_eq_true c26
       have c26b1 : decide (1 < a0.size) = true := decide_eq_true (by omega)
       clear c26
       simp only [Option.some.injEq, Prod.mk.injEq] at H
       obtain ⟨rfl, rfl, rfl, rfl, rfl⟩ := H
       have p27 : 0 ≤ (1 : Int) := (by omega)
       have q27 : 1 < a0.size := (by have : (1 : Int) < (a0.size : Int) := of_decide_eq_true (by first | (with_reducible assumption) | assumption); omega)
       have hx27 : ∀ h : 1 < a0.size, ((a0[1]'h).toNat : Int) = bt a0 1 := bt_at a0 1
       clear p27
       have qi27 : (1 < (a0.size : Int)) = True := eq_true (of_decide_eq_true (by first | (with_reducible assumption) | assumption))
       replace q27 := eq_true q27
       have hnb28 := NB510_509.out
       have hnc28 := NB509_510.out
       have hcz29_0 : wc.cell? ⟨gb510, 0, none⟩ = some (.int .i64 (wrap64 ((wrap64 (bt a0 0)) - 1))) := (blk_cell BK510.out 0).trans rfl
       have hcz29_1 : wc.cell? ⟨gb510, 1, none⟩ = some (.int .i64 0) := (blk_cell BK510.out 1).trans rfl
       have hcz29_2 : wc.cell? ⟨gb510, 2, none⟩ = some (.float .f64 0) := (blk_cell BK510.out 2).trans rfl
       have hcz29_3 : wc.cell? ⟨gb510, 3, none⟩ = some (.string (⟨#[]⟩ : ByteArray)) := (blk_cell BK510.out 3).trans rfl
       have hfz29_0 := blk_frozen BK510.out 0
       have hfz29_1 := blk_frozen BK510.out 1
       have hfz29_2 := blk_frozen BK510.out 2
       have hfz29_3 := blk_frozen BK510.out 3
       have hcz30_0 : wc.cell? ⟨gb509, 0, none⟩ = some (.int .i64 0) := (blk_cell BK509.out 0).trans rfl
       have hcz30_1 : wc.cell? ⟨gb509, 1, none⟩ = some (.int .i64 0) := (blk_cell BK509.out 1).trans rfl
       have hcz30_2 : wc.cell? ⟨gb509, 2, none⟩ = some (.float .f64 0) := (blk_cell BK509.out 2).trans rfl
       have hcz30_3 : wc.cell? ⟨gb509, 3, none⟩ = some (.string (⟨#[]⟩ : ByteArray)) := (blk_cell BK509.out 3).trans rfl
       have hfz30_0 := blk_frozen BK509.out 0
       have hfz30_1 := blk_frozen BK509.out 1
       have hfz30_2 := blk_frozen BK509.out 2
       have hfz30_3 := blk_frozen BK509.out 3
       go_wp2
       refine bodyPost_ret (results_ct rfl _ _ gb509 50 #[.int .i64 (wrap64 ((wrap64 (bt a0 0)) - 1)), .int .i64 (wrap64 (bt a0 1)), .float .f64 0, .string (⟨#[]⟩ : ByteArray)] (0, 0) _ rfl (by (with_reducible repeat (first | refine blk_drewN ?_ _ | refine blk_drew ?_ | refine blk_alloc ?_ _)); refine blk_put (cs := #[.int .i64 (wrap64 ((wrap64 (bt a0 0)) - 1)), .int .i64 (wrap64 (bt a0 1)), .float .f64 0, .string (⟨#[]⟩ : ByteArray)]) ?_ 3 _ rfl; (with_reducible repeat (first | refine blk_drewN ?_ _ | refine blk_drew ?_ | refine blk_alloc ?_ _)); refine blk_put (cs := #[.int .i64 (wrap64 ((wrap64 (bt a0 0)) - 1)), .int .i64 (wrap64 (bt a0 1)), .float .f64 0, .string (⟨#[]⟩ : ByteArray)]) ?_ 2 _ rfl; (with_reducible repeat (first | refine blk_drewN ?_ _ | refine blk_drew ?_ | refine blk_alloc ?_ _)); refine blk_put (cs := #[.int .i64 (wrap64 ((wrap64 (bt a0 0)) - 1)), .int .i64 0, .float .f64 0, .string (⟨#[]⟩ : ByteArray)]) ?_ 1 _ rfl; (with_reducible repeat (first | refine blk_drewN ?_ _ | refine blk_drew ?_ | refine blk_alloc ?_ _)); refine blk_put (cs := #[.int .i64 0, .int .i64 0, .float .f64 0, .string (⟨#[]⟩ : ByteArray)]) ?_ 0 _ rfl; (with_reducible repeat (first | refine blk_drewN ?_ _ | refine blk_drew ?_ | refine blk_alloc ?_ _)); refine blk_far ?_ NB509_510.out _; (with_reducible repeat (first | refine blk_drewN ?_ _ | refine blk_drew ?_ | refine blk_alloc ?_ _)); exact BK509.out) Tryd.underlying50 rfl (by kernel_rfl)) rfl ?_
       exact ⟨by first | rfl | (simp [errW_none, errW_some] <;> rfl) | (simp [*, errW_none, errW_some] <;> rfl), by repeat (first | (with_reducible first | exact HB.out | apply below_alloc | apply pw_below_drewN | apply below_drew1 | refine below_set ?_ GE509.out | refine below_set ?_ GE510.out) | exact HB.out)⟩
      ·rw [if_neg c26] at H
       exact absurd H (by simp)
     ·replace c25 := Bool.eq_false_iff.mpr c25
      subst c25
      have H1 : (if (wrap64 ((wrap64 (bt a0 0)) - 1)) = 2 then (vellumref02_back.j1 kj9 a0 (decide ((a0.size : Int) > 1)) (wrap64 ((wrap64 (bt a0 0)) - 1)) 0 0 (⟨#[]⟩ : ByteArray)) else (vellumref02_back.j1 kj9 a0 false (wrap64 ((wrap64 (bt a0 0)) - 1)) 0 0 (⟨#[]⟩ : ByteArray))) = some (r1, r2, r3, r4, r5) := by rw [if_neg (show ¬ (false = true) by decide)] at H; exact H
      clear H
      have H := H1
      clear H1
      have HC31 := Aside0.mk H
      clear H
      go_upto_region 7 with (fail)
      go_cut [40] (fun v40 wc => ∃ (kq : Nat) (x40_30 : Bool), v40 = .bool x40_30 ∧ Aside0 (vellumref02_back.j1 kq a0 x40_30 (wrap64 ((wrap64 (bt a0 0)) - 1)) 0 0 (⟨#[]⟩ : ByteArray) = some (r1, r2, r3, r4, r5)) ∧ Aside0 (kq ≤ kj9) ∧ Aside0 (wc.heap[gb509]? = some (.cells #[.int .i64 0, .int .i64 0, .float .f64 0, .string (⟨#[]⟩ : ByteArray)] 50 (0, 0))) ∧ Aside0 (wc.heap[gb510]? = some (.cells #[.int .i64 (wrap64 ((wrap64 (bt a0 0)) - 1)), .int .i64 0, .float .f64 0, .string (⟨#[]⟩ : ByteArray)] 50 (0, 0))) ∧ Aside0 (Below w.heap.size w wc))
      case first =>
       have H := HC31.out
       clear HC31
       by_cases c32 : (wrap64 ((wrap64 (bt a0 0)) - 1)) = 2
       ·rw [if_pos c32] at H
        have c32b0 : ((wrap64 ((wrap64 (bt a0 0)) - 1)) == 2) = true := beq_iff_eq.mpr c32
        have c32b1 : ((wrap64 ((wrap64 (bt a0 0)) - 1)) != 2) = false := bne_eq_false_iff_eq.mpr c32
        clear c32
        (first | rw [c32b0] | (simp only [i64_w, i32_w]; rw [c32b0]) | skip)
        have H' := Aside0.mk H
        clear H
        have hnb33 := NB510_509.out
        have hnc33 := NB509_510.out
        have hcz34_0 : wc.cell? ⟨gb510, 0, none⟩ = some (.int .i64 (wrap64 ((wrap64 (bt a0 0)) - 1))) := (blk_cell BK510.out 0).trans rfl
        have hcz34_1 : wc.cell? ⟨gb510, 1, none⟩ = some (.int .i64 0) := (blk_cell BK510.out 1).trans rfl
        have hcz34_2 : wc.cell? ⟨gb510, 2, none⟩ = some (.float .f64 0) := (blk_cell BK510.out 2).trans rfl
        have hcz34_3 : wc.cell? ⟨gb510, 3, none⟩ = some (.string (⟨#[]⟩ : ByteArray)) := (blk_cell BK510.out 3).trans rfl
        have hfz34_0 := blk_frozen BK510.out 0
        have hfz34_1 := blk_frozen BK510.out 1
        have hfz34_2 := blk_frozen BK510.out 2
        have hfz34_3 := blk_frozen BK510.out 3
        go_wp2
        go_meet
        case rel => exact ⟨_, (decide ((a0.size : Int) > 1)), (by first | rfl | (simp; done) | (simp [*]; done) | (simp [bool_ne_nil]; done) | (simp; exact bool_ne_nil _)), H', ⟨by have := HJ9.out; first | omega | exact Nat.le_refl _⟩, ⟨by (with_reducible repeat (first | refine blk_drewN ?_ _ | refine blk_drew ?_ | refine blk_alloc ?_ _)); exact BK509.out⟩, ⟨by (with_reducible repeat (first | refine blk_drewN ?_ _ | refine blk_drew ?_ | refine blk_alloc ?_ _)); exact BK510.out⟩, ⟨by repeat (first | (with_reducible first | exact HB.out | apply below_alloc | apply pw_below_drewN | apply below_drew1 | refine below_set ?_ GE509.out | refine below_set ?_ GE510.out) | exact HB.out)⟩⟩
       ·rw [if_neg c32] at H
        have c32b0 : ((wrap64 ((wrap64 (bt a0 0)) - 1)) == 2) = false := beq_eq_false_iff_ne.mpr c32
        have c32b1 : ((wrap64 ((wrap64 (bt a0 0)) - 1)) != 2) = true := bne_iff_ne.mpr c32
        (first | rw [c32b0] | (simp only [i64_w, i32_w]; rw [c32b0]) | skip)
        have H' := Aside0.mk H
        clear H
        have hnb35 := NB510_509.out
        have hnc35 := NB509_510.out
        have hcz36_0 : wc.cell? ⟨gb510, 0, none⟩ = some (.int .i64 (wrap64 ((wrap64 (bt a0 0)) - 1))) := (blk_cell BK510.out 0).trans rfl
        have hcz36_1 : wc.cell? ⟨gb510, 1, none⟩ = some (.int .i64 0) := (blk_cell BK510.out 1).trans rfl
        have hcz36_2 : wc.cell? ⟨gb510, 2, none⟩ = some (.float .f64 0) := (blk_cell BK510.out 2).trans rfl
        have hcz36_3 : wc.cell? ⟨gb510, 3, none⟩ = some (.string (⟨#[]⟩ : ByteArray)) := (blk_cell BK510.out 3).trans rfl
        have hfz36_0 := blk_frozen BK510.out 0
        have hfz36_1 := blk_frozen BK510.out 1
        have hfz36_2 := blk_frozen BK510.out 2
        have hfz36_3 := blk_frozen BK510.out 3
        go_wp2
        go_meet
        case rel => exact ⟨_, (false), (by first | rfl | (simp; done) | (simp [*]; done) | (simp [bool_ne_nil]; done) | (simp; exact bool_ne_nil _)), H', ⟨by have := HJ9.out; first | omega | exact Nat.le_refl _⟩, ⟨by (with_reducible repeat (first | refine blk_drewN ?_ _ | refine blk_drew ?_ | refine blk_alloc ?_ _)); exact BK509.out⟩, ⟨by (with_reducible repeat (first | refine blk_drewN ?_ _ | refine blk_drew ?_ | refine blk_alloc ?_ _)); exact BK510.out⟩, ⟨by repeat (first | (with_reducible first | exact HB.out | apply below_alloc | apply pw_below_drewN | apply below_drew1 | refine below_set ?_ GE509.out | refine below_set ?_ GE510.out) | exact HB.out)⟩⟩
      case rest =>
       clear HC31
       (try clear c1); (try clear p1); (try clear q1); (try clear hx1); (try clear qi1); (try clear c2); (try clear c2b0); (try clear c2b1); (try clear p2); (try clear q2); (try clear hx2); (try clear qi2); (try clear c3); (try clear p3); (try clear q3); (try clear hx3); (try clear qi3); (try clear c4); (try clear c4b0); (try clear c4b1); (try clear p6); (try clear c7); (try clear c13); (try clear c15); (try clear c15b0); (try clear c15b1); (try clear c16); (try clear c16b0); (try clear c16b1); (try clear c17); (try clear c17b0); (try clear c17b1); (try clear p18); (try clear q18); (try clear hx18); (try clear qi18); (try clear c19); (try clear c21); (try clear c23); (try clear c25); (try clear c26); (try clear c26b0); (try clear c26b1); (try clear p27); (try clear q27); (try clear hx27); (try clear qi27); (try clear c28); (try clear c32); (try clear c32b0); (try clear c32b1); (try clear c33); (try clear c35); (try clear hcz14_0); (try clear hcz14_1); (try clear hcz14_2); (try clear hcz14_3); (try clear hcz20_0); (try clear hcz20_1); (try clear hcz20_2); (try clear hcz20_3); (try clear hcz22_0); (try clear hcz22_1); (try clear hcz22_2); (try clear hcz22_3); (try clear hcz24_0); (try clear hcz24_1); (try clear hcz24_2); (try clear hcz24_3); (try clear hcz29_0); (try clear hcz29_1); (try clear hcz29_2); (try clear hcz29_3); (try clear hcz30_0); (try clear hcz30_1); (try clear hcz30_2); (try clear hcz30_3); (try clear hcz34_0); (try clear hcz34_1); (try clear hcz34_2); (try clear hcz34_3); (try clear hcz36_0); (try clear hcz36_1); (try clear hcz36_2); (try clear hcz36_3); (try clear hcz8_0); (try clear hcz8_1); (try clear hcz8_2); (try clear hcz8_3); (try clear hcz9_0); (try clear hcz9_1); (try clear hcz9_2); (try clear hcz9_3); (try clear hfz14_0); (try clear hfz14_1); (try clear hfz14_2); (try clear hfz14_3); (try clear hfz20_0); (try clear hfz20_1); (try clear hfz20_2); (try clear hfz20_3); (try clear hfz22_0); (try clear hfz22_1); (try clear hfz22_2); (try clear hfz22_3); (try clear hfz24_0); (try clear hfz24_1); (try clear hfz24_2); (try clear hfz24_3); (try clear hfz29_0); (try clear hfz29_1); (try clear hfz29_2); (try clear hfz29_3); (try clear hfz30_0); (try clear hfz30_1); (try clear hfz30_2); (try clear hfz30_3); (try clear hfz34_0); (try clear hfz34_1); (try clear hfz34_2); (try clear hfz34_3); (try clear hfz36_0); (try clear hfz36_1); (try clear hfz36_2); (try clear hfz36_3); (try clear hfz8_0); (try clear hfz8_1); (try clear hfz8_2); (try clear hfz8_3); (try clear hfz9_0); (try clear hfz9_1); (try clear hfz9_2); (try clear hfz9_3); (try clear p1); (try clear p18); (try clear p2); (try clear p27); (try clear p3); (try clear p6); (try clear q1); (try clear q18); (try clear q27); (try clear q3)
       obtain ⟨kq, x40_30, rfl, HA, HJ30, BK509, BK510, HB⟩ := hcut
       cases kq with
       | zero => exact absurd HA.out (by simp [vellumref02_back.j1])
       | succ kj30 =>
        have H := HA.out
        clear HA
        simp only [vellumref02_back.j1] at H
        by_cases c37 : x40_30 = true
        ·subst c37
         have H1 : (if 1 < (a0.size : Int) then (if (wrap64 ((wrap64 (bt a0 1)) - 128)) < 0 then (vellumref02_back.j2 kj30 a0 (wrap64 ((wrap64 (bt a0 1)) - 128)) (wrap64 (-(wrap64 ((wrap64 (bt a0 1)) - 128)))) (wrap64 ((wrap64 (bt a0 0)) - 1)) 0 0 (⟨#[]⟩ : ByteArray)) else (vellumref02_back.j2 kj30 a0 (wrap64 ((wrap64 (bt a0 1)) - 128)) (wrap64 ((wrap64 (bt a0 1)) - 128)) (wrap64 ((wrap64 (bt a0 0)) - 1)) 0 0 (⟨#[]⟩ : ByteArray))) else (none)) = some (r1, r2, r3, r4, r5) := by rw [if_pos rfl] at H; exact H
         clear H
         have H := H1
         clear H1
         by_cases c38 : 1 < (a0.size : Int)
         ·rw [if_pos c38] at H
          have c38b0 : decide (1 < (a0.size : Int)) = true := decide_eq_true c38
          have c38b1 : decide (1 < a0.size) = true := decide_eq_true (by omega)
          clear c38
          have HC40 := Aside0.mk H
          clear H
          have p39 : 0 ≤ (1 : Int) := (by omega)
          have q39 : 1 < a0.size := (by have : (1 : Int) < (a0.size : Int) := of_decide_eq_true (by first | (with_reducible assumption) | assumption); omega)
          have hx39 : ∀ h : 1 < a0.size, ((a0[1]'h).toNat : Int) = bt a0 1 := bt_at a0 1
          clear p39
          have qi39 : (1 < (a0.size : Int)) = True := eq_true (of_decide_eq_true (by first | (with_reducible assumption) | assumption))
          replace q39 := eq_true q39
          go_upto_if 55 with (fail)
          go_cut [6] (fun v6 wc => ∃ (kq : Nat) (x6_39 : Int), v6 = .int .i64 x6_39 ∧ Aside0 (vellumref02_back.j2 kq a0 (wrap64 ((wrap64 (bt a0 1)) - 128)) x6_39 (wrap64 ((wrap64 (bt a0 0)) - 1)) 0 0 (⟨#[]⟩ : ByteArray) = some (r1, r2, r3, r4, r5)) ∧ Aside0 (kq ≤ kj30) ∧ Aside0 (wc.heap[gb509]? = some (.cells #[.int .i64 0, .int .i64 0, .float .f64 0, .string (⟨#[]⟩ : ByteArray)] 50 (0, 0))) ∧ Aside0 (wc.heap[gb510]? = some (.cells #[.int .i64 (wrap64 ((wrap64 (bt a0 0)) - 1)), .int .i64 0, .float .f64 0, .string (⟨#[]⟩ : ByteArray)] 50 (0, 0))) ∧ Aside0 (Below w.heap.size w wc))
          case first =>
           have H := HC40.out
           clear HC40
           by_cases c41 : (wrap64 ((wrap64 (bt a0 1)) - 128)) < 0
           ·rw [if_pos c41] at H
            have c41b0 : decide ((wrap64 ((wrap64 (bt a0 1)) - 128)) < 0) = true := decide_eq_true c41
            clear c41
            (first | rw [c41b0] | (simp only [i64_w, i32_w]; rw [c41b0]) | skip)
            have H' := Aside0.mk H
            clear H
            go_wp2
            go_meet
            case rel => exact ⟨_, (wrap64 (-(wrap64 ((wrap64 (bt a0 1)) - 128)))), (by first | rfl | (simp; done) | (simp [*]; done) | (simp [bool_ne_nil]; done) | (simp; exact bool_ne_nil _)), H', ⟨by have := HJ9.out; have := HJ30.out; first | omega | exact Nat.le_refl _⟩, ⟨by (with_reducible repeat (first | refine blk_drewN ?_ _ | refine blk_drew ?_ | refine blk_alloc ?_ _)); exact BK509.out⟩, ⟨by (with_reducible repeat (first | refine blk_drewN ?_ _ | refine blk_drew ?_ | refine blk_alloc ?_ _)); exact BK510.out⟩, ⟨by repeat (first | (with_reducible first | exact HB.out | apply below_alloc | apply pw_below_drewN | apply below_drew1 | refine below_set ?_ GE509.out | refine below_set ?_ GE510.out) | exact HB.out)⟩⟩
           ·rw [if_neg c41] at H
            have c41b0 : decide ((wrap64 ((wrap64 (bt a0 1)) - 128)) < 0) = false := decide_eq_false c41
            clear c41
            (first | rw [c41b0] | (simp only [i64_w, i32_w]; rw [c41b0]) | skip)
            have H' := Aside0.mk H
            clear H
            go_wp2
            go_meet
            case rel => exact ⟨_, (wrap64 ((wrap64 (bt a0 1)) - 128)), (by first | rfl | (simp; done) | (simp [*]; done) | (simp [bool_ne_nil]; done) | (simp; exact bool_ne_nil _)), H', ⟨by have := HJ9.out; have := HJ30.out; first | omega | exact Nat.le_refl _⟩, ⟨by (with_reducible repeat (first | refine blk_drewN ?_ _ | refine blk_drew ?_ | refine blk_alloc ?_ _)); exact BK509.out⟩, ⟨by (with_reducible repeat (first | refine blk_drewN ?_ _ | refine blk_drew ?_ | refine blk_alloc ?_ _)); exact BK510.out⟩, ⟨by repeat (first | (with_reducible first | exact HB.out | apply below_alloc | apply pw_below_drewN | apply below_drew1 | refine below_set ?_ GE509.out | refine below_set ?_ GE510.out) | exact HB.out)⟩⟩
          case rest =>
           clear HC40
           (try clear c1); (try clear p1); (try clear q1); (try clear hx1); (try clear qi1); (try clear c2); (try clear c2b0); (try clear c2b1); (try clear p2); (try clear q2); (try clear hx2); (try clear qi2); (try clear c3); (try clear p3); (try clear q3); (try clear hx3); (try clear qi3); (try clear c4); (try clear c4b0); (try clear c4b1); (try clear p6); (try clear c7); (try clear c13); (try clear c15); (try clear c15b0); (try clear c15b1); (try clear c16); (try clear c16b0); (try clear c16b1); (try clear c17); (try clear c17b0); (try clear c17b1); (try clear p18); (try clear q18); (try clear hx18); (try clear qi18); (try clear c19); (try clear c21); (try clear c23); (try clear c25); (try clear c26); (try clear c26b0); (try clear c26b1); (try clear p27); (try clear q27); (try clear hx27); (try clear qi27); (try clear c28); (try clear c32); (try clear c32b0); (try clear c32b1); (try clear c33); (try clear c35); (try clear c37); (try clear c38); (try clear c38b0); (try clear c38b1); (try clear p39); (try clear q39); (try clear hx39); (try clear qi39); (try clear c41); (try clear c41b0); (try clear hcz14_0); (try clear hcz14_1); (try clear hcz14_2); (try clear hcz14_3); (try clear hcz20_0); (try clear hcz20_1); (try clear hcz20_2); (try clear hcz20_3); (try clear hcz22_0); (try clear hcz22_1); (try clear hcz22_2); (try clear hcz22_3); (try clear hcz24_0); (try clear hcz24_1); (try clear hcz24_2); (try clear hcz24_3); (try clear hcz29_0); (try clear hcz29_1); (try clear hcz29_2); (try clear hcz29_3); (try clear hcz30_0); (try clear hcz30_1); (try clear hcz30_2); (try clear hcz30_3); (try clear hcz34_0); (try clear hcz34_1); (try clear hcz34_2); (try clear hcz34_3); (try clear hcz36_0); (try clear hcz36_1); (try clear hcz36_2); (try clear hcz36_3); (try clear hcz8_0); (try clear hcz8_1); (try clear hcz8_2); (try clear hcz8_3); (try clear hcz9_0); (try clear hcz9_1); (try clear hcz9_2); (try clear hcz9_3); (try clear hfz14_0); (try clear hfz14_1); (try clear hfz14_2); (try clear hfz14_3); (try clear hfz20_0); (try clear hfz20_1); (try clear hfz20_2); (try clear hfz20_3); (try clear hfz22_0); (try clear hfz22_1); (try clear hfz22_2); (try clear hfz22_3); (try clear hfz24_0); (try clear hfz24_1); (try clear hfz24_2); (try clear hfz24_3); (try clear hfz29_0); (try clear hfz29_1); (try clear hfz29_2); (try clear hfz29_3); (try clear hfz30_0); (try clear hfz30_1); (try clear hfz30_2); (try clear hfz30_3); (try clear hfz34_0); (try clear hfz34_1); (try clear hfz34_2); (try clear hfz34_3); (try clear hfz36_0); (try clear hfz36_1); (try clear hfz36_2); (try clear hfz36_3); (try clear hfz8_0); (try clear hfz8_1); (try clear hfz8_2); (try clear hfz8_3); (try clear hfz9_0); (try clear hfz9_1); (try clear hfz9_2); (try clear hfz9_3); (try clear p1); (try clear p18); (try clear p2); (try clear p27); (try clear p3); (try clear p39); (try clear p6); (try clear q1); (try clear q18); (try clear q2); (try clear q27); (try clear q3); (try clear q39)
           obtain ⟨kq, x6_39, rfl, HA, HJ39, BK509, BK510, HB⟩ := hcut
           cases kq with
           | zero => exact absurd HA.out (by simp [vellumref02_back.j2])
           | succ kj39 =>
            have H := HA.out
            clear HA
            simp only [vellumref02_back.j2] at H
            have HC42 := Aside0.mk H
            clear H
            go_upto_region 12 with (fail)
            go_cut [66] (fun v66 wc => ∃ (kq : Nat) (x66_41 : Bool), v66 = .bool x66_41 ∧ Aside0 (vellumref02_back.j3 kq a0 (wrap64 ((wrap64 (bt a0 1)) - 128)) x6_39 x66_41 (wrap64 ((wrap64 (bt a0 0)) - 1)) 0 0 (⟨#[]⟩ : ByteArray) = some (r1, r2, r3, r4, r5)) ∧ Aside0 (kq ≤ kj39) ∧ Aside0 (wc.heap[gb509]? = some (.cells #[.int .i64 0, .int .i64 0, .float .f64 0, .string (⟨#[]⟩ : ByteArray)] 50 (0, 0))) ∧ Aside0 (wc.heap[gb510]? = some (.cells #[.int .i64 (wrap64 ((wrap64 (bt a0 0)) - 1)), .int .i64 0, .float .f64 0, .string (⟨#[]⟩ : ByteArray)] 50 (0, 0))) ∧ Aside0 (Below w.heap.size w wc))
            case first =>
             have H := HC42.out
             clear HC42
             by_cases c43 : x6_39 > 8
             ·rw [if_pos c43] at H
              have c43b0 : decide (8 < x6_39) = true := decide_eq_true c43
              clear c43
              (first | rw [c43b0] | (simp only [i64_w, i32_w]; rw [c43b0]) | skip)
              have H' := Aside0.mk H
              clear H
              go_wp2
              go_meet
              case rel => exact ⟨_, (true), (by first | rfl | (simp; done) | (simp [*]; done) | (simp [bool_ne_nil]; done) | (simp; exact bool_ne_nil _)), H', ⟨by have := HJ9.out; have := HJ30.out; have := HJ39.out; first | omega | exact Nat.le_refl _⟩, ⟨by (with_reducible repeat (first | refine blk_drewN ?_ _ | refine blk_drew ?_ | refine blk_alloc ?_ _)); exact BK509.out⟩, ⟨by (with_reducible repeat (first | refine blk_drewN ?_ _ | refine blk_drew ?_ | refine blk_alloc ?_ _)); exact BK510.out⟩, ⟨by repeat (first | (with_reducible first | exact HB.out | apply below_alloc | apply pw_below_drewN | apply below_drew1 | refine below_set ?_ GE509.out | refine below_set ?_ GE510.out) | exact HB.out)⟩⟩
             ·rw [if_neg c43] at H
              have c43b0 : decide (8 < x6_39) = false := decide_eq_false c43
              clear c43
              (first | rw [c43b0] | (simp only [i64_w, i32_w]; rw [c43b0]) | skip)
              have H' := Aside0.mk H
              clear H
              go_wp2
              go_meet
              case rel => exact ⟨_, (decide ((a0.size : Int) < (wrap64 (2 + x6_39)))), (by first | rfl | (simp; done) | (simp [*]; done) | (simp [bool_ne_nil]; done) | (simp; exact bool_ne_nil _)), H', ⟨by have := HJ9.out; have := HJ30.out; have := HJ39.out; first | omega | exact Nat.le_refl _⟩, ⟨by (with_reducible repeat (first | refine blk_drewN ?_ _ | refine blk_drew ?_ | refine blk_alloc ?_ _)); exact BK509.out⟩, ⟨by (with_reducible repeat (first | refine blk_drewN ?_ _ | refine blk_drew ?_ | refine blk_alloc ?_ _)); exact BK510.out⟩, ⟨by repeat (first | (with_reducible first | exact HB.out | apply below_alloc | apply pw_below_drewN | apply below_drew1 | refine below_set ?_ GE509.out | refine below_set ?_ GE510.out) | exact HB.out)⟩⟩
            case rest =>
             clear HC42
             (try clear c1); (try clear p1); (try clear q1); (try clear hx1); (try clear qi1); (try clear c2); (try clear c2b0); (try clear c2b1); (try clear p2); (try clear q2); (try clear hx2); (try clear qi2); (try clear c3); (try clear p3); (try clear q3); (try clear hx3); (try clear qi3); (try clear c4); (try clear c4b0); (try clear c4b1); (try clear p6); (try clear c7); (try clear c13); (try clear c15); (try clear c15b0); (try clear c15b1); (try clear c16); (try clear c16b0); (try clear c16b1); (try clear c17); (try clear c17b0); (try clear c17b1); (try clear p18); (try clear q18); (try clear hx18); (try clear qi18); (try clear c19); (try clear c21); (try clear c23); (try clear c25); (try clear c26); (try clear c26b0); (try clear c26b1); (try clear p27); (try clear q27); (try clear hx27); (try clear qi27); (try clear c28); (try clear c32); (try clear c32b0); (try clear c32b1); (try clear c33); (try clear c35); (try clear c37); (try clear c38); (try clear c38b0); (try clear c38b1); (try clear p39); (try clear q39); (try clear hx39); (try clear qi39); (try clear c41); (try clear c41b0); (try clear c43); (try clear c43b0); (try clear hcz14_0); (try clear hcz14_1); (try clear hcz14_2); (try clear hcz14_3); (try clear hcz20_0); (try clear hcz20_1); (try clear hcz20_2); (try clear hcz20_3); (try clear hcz22_0); (try clear hcz22_1); (try clear hcz22_2); (try clear hcz22_3); (try clear hcz24_0); (try clear hcz24_1); (try clear hcz24_2); (try clear hcz24_3); (try clear hcz29_0); (try clear hcz29_1); (try clear hcz29_2); (try clear hcz29_3); (try clear hcz30_0); (try clear hcz30_1); (try clear hcz30_2); (try clear hcz30_3); (try clear hcz34_0); (try clear hcz34_1); (try clear hcz34_2); (try clear hcz34_3); (try clear hcz36_0); (try clear hcz36_1); (try clear hcz36_2); (try clear hcz36_3); (try clear hcz8_0); (try clear hcz8_1); (try clear hcz8_2); (try clear hcz8_3); (try clear hcz9_0); (try clear hcz9_1); (try clear hcz9_2); (try clear hcz9_3); (try clear hfz14_0); (try clear hfz14_1); (try clear hfz14_2); (try clear hfz14_3); (try clear hfz20_0); (try clear hfz20_1); (try clear hfz20_2); (try clear hfz20_3); (try clear hfz22_0); (try clear hfz22_1); (try clear hfz22_2); (try clear hfz22_3); (try clear hfz24_0); (try clear hfz24_1); (try clear hfz24_2); (try clear hfz24_3); (try clear hfz29_0); (try clear hfz29_1); (try clear hfz29_2); (try clear hfz29_3); (try clear hfz30_0); (try clear hfz30_1); (try clear hfz30_2); (try clear hfz30_3); (try clear hfz34_0); (try clear hfz34_1); (try clear hfz34_2); (try clear hfz34_3); (try clear hfz36_0); (try clear hfz36_1); (try clear hfz36_2); (try clear hfz36_3); (try clear hfz8_0); (try clear hfz8_1); (try clear hfz8_2); (try clear hfz8_3); (try clear hfz9_0); (try clear hfz9_1); (try clear hfz9_2); (try clear hfz9_3); (try clear p1); (try clear p18); (try clear p2); (try clear p27); (try clear p3); (try clear p39); (try clear p6); (try clear q1); (try clear q18); (try clear q2); (try clear q27); (try clear q3); (try clear q39)
             obtain ⟨kq, x66_41, rfl, HA, HJ41, BK509, BK510, HB⟩ := hcut
             cases kq with
             | zero => exact absurd HA.out (by simp [vellumref02_back.j3])
             | succ kj41 =>
              have H := HA.out
              clear HA
              simp only [vellumref02_back.j3] at H
              by_cases c44 : x66_41 = true
              ·subst c44
               have H1 : (some ((wrap64 ((wrap64 (bt a0 0)) - 1)), 0, 0, (⟨#[]⟩ : ByteArray), 0)) = some (r1, r2, r3, r4, r5) := by rw [if_pos rfl] at H; exact H
               clear H
               have H := H1
               clear H1
               simp only [Option.some.injEq, Prod.mk.injEq] at H
               obtain ⟨rfl, rfl, rfl, rfl, rfl⟩ := H
               have hnb45 := NB510_509.out
               have hnc45 := NB509_510.out
               have hcz46_0 : wc.cell? ⟨gb510, 0, none⟩ = some (.int .i64 (wrap64 ((wrap64 (bt a0 0)) - 1))) := (blk_cell BK510.out 0).trans rfl
               have hcz46_1 : wc.cell? ⟨gb510, 1, none⟩ = some (.int .i64 0) := (blk_cell BK510.out 1).trans rfl
               have hcz46_2 : wc.cell? ⟨gb510, 2, none⟩ = some (.float .f64 0) := (blk_cell BK510.out 2).trans rfl
               have hcz46_3 : wc.cell? ⟨gb510, 3, none⟩ = some (.string (⟨#[]⟩ : ByteArray)) := (blk_cell BK510.out 3).trans rfl
               have hfz46_0 := blk_frozen BK510.out 0
               have hfz46_1 := blk_frozen BK510.out 1
               have hfz46_2 := blk_frozen BK510.out 2
               have hfz46_3 := blk_frozen BK510.out 3
               have hcz47_0 : wc.cell? ⟨gb509, 0, none⟩ = some (.int .i64 0) := (blk_cell BK509.out 0).trans rfl
               have hcz47_1 : wc.cell? ⟨gb509, 1, none⟩ = some (.int .i64 0) := (blk_cell BK509.out 1).trans rfl
               have hcz47_2 : wc.cell? ⟨gb509, 2, none⟩ = some (.float .f64 0) := (blk_cell BK509.out 2).trans rfl
               have hcz47_3 : wc.cell? ⟨gb509, 3, none⟩ = some (.string (⟨#[]⟩ : ByteArray)) := (blk_cell BK509.out 3).trans rfl
               have hfz47_0 := blk_frozen BK509.out 0
               have hfz47_1 := blk_frozen BK509.out 1
               have hfz47_2 := blk_frozen BK509.out 2
               have hfz47_3 := blk_frozen BK509.out 3
               go_wp2
               refine bodyPost_ret (results_ct rfl _ _ gb509 50 #[.int .i64 (wrap64 ((wrap64 (bt a0 0)) - 1)), .int .i64 0, .float .f64 0, .string (⟨#[]⟩ : ByteArray)] (0, 0) _ rfl (by (with_reducible repeat (first | refine blk_drewN ?_ _ | refine blk_drew ?_ | refine blk_alloc ?_ _)); refine blk_put (cs := #[.int .i64 (wrap64 ((wrap64 (bt a0 0)) - 1)), .int .i64 0, .float .f64 0, .string (⟨#[]⟩ : ByteArray)]) ?_ 3 _ rfl; (with_reducible repeat (first | refine blk_drewN ?_ _ | refine blk_drew ?_ | refine blk_alloc ?_ _)); refine blk_put (cs := #[.int .i64 (wrap64 ((wrap64 (bt a0 0)) - 1)), .int .i64 0, .float .f64 0, .string (⟨#[]⟩ : ByteArray)]) ?_ 2 _ rfl; (with_reducible repeat (first | refine blk_drewN ?_ _ | refine blk_drew ?_ | refine blk_alloc ?_ _)); refine blk_put (cs := #[.int .i64 (wrap64 ((wrap64 (bt a0 0)) - 1)), .int .i64 0, .float .f64 0, .string (⟨#[]⟩ : ByteArray)]) ?_ 1 _ rfl; (with_reducible repeat (first | refine blk_drewN ?_ _ | refine blk_drew ?_ | refine blk_alloc ?_ _)); refine blk_put (cs := #[.int .i64 0, .int .i64 0, .float .f64 0, .string (⟨#[]⟩ : ByteArray)]) ?_ 0 _ rfl; (with_reducible repeat (first | refine blk_drewN ?_ _ | refine blk_drew ?_ | refine blk_alloc ?_ _)); exact BK509.out) Tryd.underlying50 rfl (by kernel_rfl)) rfl ?_
               exact ⟨by first | rfl | (simp [errW_none, errW_some] <;> rfl) | (simp [*, errW_none, errW_some] <;> rfl), by repeat (first | (with_reducible first | exact HB.out | apply below_alloc | apply pw_below_drewN | apply below_drew1 | refine below_set ?_ GE509.out | refine below_set ?_ GE510.out) | exact HB.out)⟩
              ·replace c44 := Bool.eq_false_iff.mpr c44
               subst c44
               have H1 : (if 2 ≤ (wrap64 (2 + x6_39)) then (if (wrap64 (2 + x6_39)) ≤ (a0.size : Int) then ((vellumref02_number.f kj41 (a0.extract 2 ((wrap64 (2 + x6_39)) : Int).toNat)).bind fun t511 => (if (wrap64 ((wrap64 (bt a0 1)) - 128)) < 0 then (if 0 ≤ (IntKind.u64.wrap (wrap64 (8 * x6_39))) then (vellumref02_back.j4 kj41 (wrap64 ((wrap64 (bt a0 1)) - 128)) x6_39 (Go.bits .and .u64 (not64 t511) (IntKind.u64.wrap ((shl .u64 1 (IntKind.u64.wrap (wrap64 (8 * x6_39)))) - 1))) (wrap64 ((wrap64 (bt a0 0)) - 1)) 0 0 (⟨#[]⟩ : ByteArray)) else (none)) else (vellumref02_back.j4 kj41 (wrap64 ((wrap64 (bt a0 1)) - 128)) x6_39 t511 (wrap64 ((wrap64 (bt a0 0)) - 1)) 0 0 (⟨#[]⟩ : ByteArray)))) else (none)) else (none)) = some (r1, r2, r3, r4, r5) := by rw [if_neg (show ¬ (false = true) by decide)] at H; exact H
               clear H
               have H := H1
               clear H1
               by_cases c48 : 2 ≤ (wrap64 (2 + x6_39))
               ·rw [if_pos c48] at H
                have c48b0 := eq_true c48
                have c48b1 : decide (2 ≤ (wrap64 (2 + x6_39))) = true := decide_eq_true c48
                by_cases c49 : (wrap64 (2 + x6_39)) ≤ (a0.size : Int)
                ·rw [if_pos c49] at H
                 have c49b0 := eq_true c49
                 have c49b1 : decide ((wrap64 (2 + x6_39)) ≤ (a0.size : Int)) = true := decide_eq_true c49
                 replace H := Option.bind_eq_some_iff.mp H
                 obtain ⟨t511, A500, H⟩ := H
                 replace H : (if (wrap64 ((wrap64 (bt a0 1)) - 128)) < 0 then (if 0 ≤ (IntKind.u64.wrap (wrap64 (8 * x6_39))) then (vellumref02_back.j4 kj41 (wrap64 ((wrap64 (bt a0 1)) - 128)) x6_39 (Go.bits .and .u64 (not64 t511) (IntKind.u64.wrap ((shl .u64 1 (IntKind.u64.wrap (wrap64 (8 * x6_39)))) - 1))) (wrap64 ((wrap64 (bt a0 0)) - 1)) 0 0 (⟨#[]⟩ : ByteArray)) else (none)) else (vellumref02_back.j4 kj41 (wrap64 ((wrap64 (bt a0 1)) - 128)) x6_39 t511 (wrap64 ((wrap64 (bt a0 0)) - 1)) 0 0 (⟨#[]⟩ : ByteArray))) = some (r1, r2, r3, r4, r5) := H
                 have A50 := Aside0.mk A500
                 clear A500
                 have HC51 := Aside0.mk H
                 clear H
                 go_upto_if 74 with (first | ((with_reducible refine gate_callee (f := 114) rfl ?_); refine goesL_ (some 72) rfl rfl Tryd.func114 (by kernel_rfl) rfl #[.string (a0.extract 2 ((wrap64 (2 + x6_39)) : Int).toNat)] rfl (by (try simp only [List.map_toArray, List.map_cons, List.map_nil]); first | done | rfl | (simp only [List.length_drop, List.length_take]; rfl)) ?_; (with_reducible refine (vellumref02_number.calls kj41 (a0.extract 2 ((wrap64 (2 + x6_39)) : Int).toNat) t511 _ A50.out).mono ?_); rintro e w' ⟨rfl, ⟨nd, rfl⟩⟩; refine ⟨_, rfl, ?_⟩))
                 (try simp only [Act.put, List.setIfInBounds_toArray, List.set_cons_zero, List.set_cons_succ])
                 go_cut [7] (fun v7 wc => ∃ (kq : Nat) (x7_50 : Int), v7 = .int .u64 x7_50 ∧ Aside0 (vellumref02_back.j4 kq (wrap64 ((wrap64 (bt a0 1)) - 128)) x6_39 x7_50 (wrap64 ((wrap64 (bt a0 0)) - 1)) 0 0 (⟨#[]⟩ : ByteArray) = some (r1, r2, r3, r4, r5)) ∧ Aside0 (kq ≤ kj41) ∧ Aside0 (wc.heap[gb509]? = some (.cells #[.int .i64 0, .int .i64 0, .float .f64 0, .string (⟨#[]⟩ : ByteArray)] 50 (0, 0))) ∧ Aside0 (wc.heap[gb510]? = some (.cells #[.int .i64 (wrap64 ((wrap64 (bt a0 0)) - 1)), .int .i64 0, .float .f64 0, .string (⟨#[]⟩ : ByteArray)] 50 (0, 0))) ∧ Aside0 (Below w.heap.size w wc))
                 case first =>
                  have H := HC51.out
                  clear HC51
                  by_cases c52 : (wrap64 ((wrap64 (bt a0 1)) - 128)) < 0
                  ·rw [if_pos c52] at H
                   have c52b0 : decide ((wrap64 ((wrap64 (bt a0 1)) - 128)) < 0) = true := decide_eq_true c52
                   clear c52
                   (first | rw [c52b0] | (simp only [i64_w, i32_w]; rw [c52b0]) | skip)
                   obtain ⟨ji53, hji53⟩ : ∃ j_ : Int, (IntKind.u64.wrap (wrap64 (8 * x6_39))) = j_ := ⟨_, rfl⟩
                   replace H : (if 0 ≤ (ji53) then (vellumref02_back.j4 kj41 (wrap64 ((wrap64 (bt a0 1)) - 128)) x6_39 (Go.bits .and .u64 (not64 t511) (IntKind.u64.wrap ((shl .u64 1 (ji53)) - 1))) (wrap64 ((wrap64 (bt a0 0)) - 1)) 0 0 (⟨#[]⟩ : ByteArray)) else (none)) = some (r1, r2, r3, r4, r5) := by first | (rw [hji53] at H; exact H) | (simp only [hji53] at H ⊢; exact H)
                   by_cases c54 : 0 ≤ (ji53)
                   ·rw [if_pos c54] at H
                    have c54b0 := eq_true c54
                    have c54b1 : decide (0 ≤ (ji53)) = true := decide_eq_true c54
                    clear c54
                    obtain ⟨ji55, hji55⟩ : ∃ j_ : Int, (shl .u64 1 (ji53)) = j_ := ⟨_, rfl⟩
                    replace H : (vellumref02_back.j4 kj41 (wrap64 ((wrap64 (bt a0 1)) - 128)) x6_39 (Go.bits .and .u64 (not64 t511) (IntKind.u64.wrap ((ji55) - 1))) (wrap64 ((wrap64 (bt a0 0)) - 1)) 0 0 (⟨#[]⟩ : ByteArray)) = some (r1, r2, r3, r4, r5) := by first | (rw [hji55] at H; exact H) | (simp only [hji55] at H ⊢; exact H)
                    have hji55_ : (IntKind.u64.wrap (1 * 2 ^ min (ji53).toNat 64)) = ji55 := hji55
                    have hji55z : (ji53) ≤ 64 → (IntKind.u64.wrap (1 * 2 ^ (ji53).toNat)) = ji55 := shl_small hji55
                    have hji55u : (IntKind.u64.wrap (2 ^ min (ji53).toNat 64)) = ji55 := by have h_ := hji55_; rw [Int.one_mul] at h_; exact h_
                    have hji55v : (ji53) ≤ 64 → (IntKind.u64.wrap (2 ^ (ji53).toNat)) = ji55 := fun hle_ => by have h_ := hji55z hle_; rw [Int.one_mul] at h_; exact h_
                    have H' := Aside0.mk H
                    clear H
                    go_wp2
                    go_meet
                    case rel => exact ⟨_, (Go.bits .and .u64 (not64 t511) (IntKind.u64.wrap ((ji55) - 1))), (by first | rfl | (simp; done) | (simp only [← hji55] <;> (first | rfl | simp)) | (simp [*]; done)), H', ⟨by have := HJ9.out; have := HJ30.out; have := HJ39.out; have := HJ41.out; first | omega | exact Nat.le_refl _⟩, ⟨by (with_reducible repeat (first | refine blk_drewN ?_ _ | refine blk_drew ?_ | refine blk_alloc ?_ _)); exact BK509.out⟩, ⟨by (with_reducible repeat (first | refine blk_drewN ?_ _ | refine blk_drew ?_ | refine blk_alloc ?_ _)); exact BK510.out⟩, ⟨by repeat (first | (with_reducible first | exact HB.out | apply below_alloc | apply pw_below_drewN | apply below_drew1 | refine below_set ?_ GE509.out | refine below_set ?_ GE510.out) | exact HB.out)⟩⟩
                   ·rw [if_neg c54] at H
                    exact absurd H (by simp)
                  ·rw [if_neg c52] at H
                   have c52b0 : decide ((wrap64 ((wrap64 (bt a0 1)) - 128)) < 0) = false := decide_eq_false c52
                   clear c52
                   (first | rw [c52b0] | (simp only [i64_w, i32_w]; rw [c52b0]) | skip)
                   have H' := Aside0.mk H
                   clear H
                   go_wp2
                   go_meet
                   case rel => exact ⟨_, (t511), (by first | rfl | (simp; done) | (simp [*]; done) | (simp [bool_ne_nil]; done) | (simp; exact bool_ne_nil _)), H', ⟨by have := HJ9.out; have := HJ30.out; have := HJ39.out; have := HJ41.out; first | omega | exact Nat.le_refl _⟩, ⟨by (with_reducible repeat (first | refine blk_drewN ?_ _ | refine blk_drew ?_ | refine blk_alloc ?_ _)); exact BK509.out⟩, ⟨by (with_reducible repeat (first | refine blk_drewN ?_ _ | refine blk_drew ?_ | refine blk_alloc ?_ _)); exact BK510.out⟩, ⟨by repeat (first | (with_reducible first | exact HB.out | apply below_alloc | apply pw_below_drewN | apply below_drew1 | refine below_set ?_ GE509.out | refine below_set ?_ GE510.out) | exact HB.out)⟩⟩
                 case rest =>
                  clear HC51
                  (try clear c1); (try clear p1); (try clear q1); (try clear hx1); (try clear qi1); (try clear c2); (try clear c2b0); (try clear c2b1); (try clear p2); (try clear q2); (try clear hx2); (try clear qi2); (try clear c3); (try clear p3); (try clear q3); (try clear hx3); (try clear qi3); (try clear c4); (try clear c4b0); (try clear c4b1); (try clear c5); (try clear p6); (try clear c7); (try clear c11); (try clear c13); (try clear c15); (try clear c15b0); (try clear c15b1); (try clear c16); (try clear c16b0); (try clear c16b1); (try clear c17); (try clear c17b0); (try clear c17b1); (try clear p18); (try clear q18); (try clear hx18); (try clear qi18); (try clear c19); (try clear c21); (try clear c23); (try clear c25); (try clear c26); (try clear c26b0); (try clear c26b1); (try clear p27); (try clear q27); (try clear hx27); (try clear qi27); (try clear c28); (try clear c32); (try clear c32b0); (try clear c32b1); (try clear c33); (try clear c35); (try clear c37); (try clear c38); (try clear c38b0); (try clear c38b1); (try clear p39); (try clear q39); (try clear hx39); (try clear qi39); (try clear c41); (try clear c41b0); (try clear c43); (try clear c43b0); (try clear c44); (try clear c45); (try clear c48); (try clear c48b0); (try clear c48b1); (try clear c49); (try clear c49b0); (try clear c49b1); (try clear c52); (try clear c52b0); (try clear c54); (try clear c54b0); (try clear c54b1); (try clear hcz14_0); (try clear hcz14_1); (try clear hcz14_2); (try clear hcz14_3); (try clear hcz20_0); (try clear hcz20_1); (try clear hcz20_2); (try clear hcz20_3); (try clear hcz22_0); (try clear hcz22_1); (try clear hcz22_2); (try clear hcz22_3); (try clear hcz24_0); (try clear hcz24_1); (try clear hcz24_2); (try clear hcz24_3); (try clear hcz29_0); (try clear hcz29_1); (try clear hcz29_2); (try clear hcz29_3); (try clear hcz30_0); (try clear hcz30_1); (try clear hcz30_2); (try clear hcz30_3); (try clear hcz34_0); (try clear hcz34_1); (try clear hcz34_2); (try clear hcz34_3); (try clear hcz36_0); (try clear hcz36_1); (try clear hcz36_2); (try clear hcz36_3); (try clear hcz46_0); (try clear hcz46_1); (try clear hcz46_2); (try clear hcz46_3); (try clear hcz47_0); (try clear hcz47_1); (try clear hcz47_2); (try clear hcz47_3); (try clear hcz8_0); (try clear hcz8_1); (try clear hcz8_2); (try clear hcz8_3); (try clear hcz9_0); (try clear hcz9_1); (try clear hcz9_2); (try clear hcz9_3); (try clear hfz14_0); (try clear hfz14_1); (try clear hfz14_2); (try clear hfz14_3); (try clear hfz20_0); (try clear hfz20_1); (try clear hfz20_2); (try clear hfz20_3); (try clear hfz22_0); (try clear hfz22_1); (try clear hfz22_2); (try clear hfz22_3); (try clear hfz24_0); (try clear hfz24_1); (try clear hfz24_2); (try clear hfz24_3); (try clear hfz29_0); (try clear hfz29_1); (try clear hfz29_2); (try clear hfz29_3); (try clear hfz30_0); (try clear hfz30_1); (try clear hfz30_2); (try clear hfz30_3); (try clear hfz34_0); (try clear hfz34_1); (try clear hfz34_2); (try clear hfz34_3); (try clear hfz36_0); (try clear hfz36_1); (try clear hfz36_2); (try clear hfz36_3); (try clear hfz46_0); (try clear hfz46_1); (try clear hfz46_2); (try clear hfz46_3); (try clear hfz47_0); (try clear hfz47_1); (try clear hfz47_2); (try clear hfz47_3); (try clear hfz8_0); (try clear hfz8_1); (try clear hfz8_2); (try clear hfz8_3); (try clear hfz9_0); (try clear hfz9_1); (try clear hfz9_2); (try clear hfz9_3); (try clear p1); (try clear p18); (try clear p2); (try clear p27); (try clear p3); (try clear p39); (try clear p6); (try clear q1); (try clear q18); (try clear q2); (try clear q27); (try clear q3); (try clear q39)
                  obtain ⟨kq, x7_50, rfl, HA, HJ50, BK509, BK510, HB⟩ := hcut
                  cases kq with
                  | zero => exact absurd HA.out (by simp [vellumref02_back.j4])
                  | succ kj50 =>
                   have H := HA.out
                   clear HA
                   simp only [vellumref02_back.j4] at H
                   by_cases c56 : (x7_50 / 9223372036854775808) > 0
                   ·rw [if_pos c56] at H
                    have c56b0 : decide (0 < (x7_50 / 9223372036854775808)) = true := decide_eq_true c56
                    clear c56
                    simp only [Option.some.injEq, Prod.mk.injEq] at H
                    obtain ⟨rfl, rfl, rfl, rfl, rfl⟩ := H
                    have hnb57 := NB510_509.out
                    have hnc57 := NB509_510.out
                    have hcz58_0 : wc.cell? ⟨gb510, 0, none⟩ = some (.int .i64 (wrap64 ((wrap64 (bt a0 0)) - 1))) := (blk_cell BK510.out 0).trans rfl
                    have hcz58_1 : wc.cell? ⟨gb510, 1, none⟩ = some (.int .i64 0) := (blk_cell BK510.out 1).trans rfl
                    have hcz58_2 : wc.cell? ⟨gb510, 2, none⟩ = some (.float .f64 0) := (blk_cell BK510.out 2).trans rfl
                    have hcz58_3 : wc.cell? ⟨gb510, 3, none⟩ = some (.string (⟨#[]⟩ : ByteArray)) := (blk_cell BK510.out 3).trans rfl
                    have hfz58_0 := blk_frozen BK510.out 0
                    have hfz58_1 := blk_frozen BK510.out 1
                    have hfz58_2 := blk_frozen BK510.out 2
                    have hfz58_3 := blk_frozen BK510.out 3
                    have hcz59_0 : wc.cell? ⟨gb509, 0, none⟩ = some (.int .i64 0) := (blk_cell BK509.out 0).trans rfl
                    have hcz59_1 : wc.cell? ⟨gb509, 1, none⟩ = some (.int .i64 0) := (blk_cell BK509.out 1).trans rfl
                    have hcz59_2 : wc.cell? ⟨gb509, 2, none⟩ = some (.float .f64 0) := (blk_cell BK509.out 2).trans rfl
                    have hcz59_3 : wc.cell? ⟨gb509, 3, none⟩ = some (.string (⟨#[]⟩ : ByteArray)) := (blk_cell BK509.out 3).trans rfl
                    have hfz59_0 := blk_frozen BK509.out 0
                    have hfz59_1 := blk_frozen BK509.out 1
                    have hfz59_2 := blk_frozen BK509.out 2
                    have hfz59_3 := blk_frozen BK509.out 3
                    go_wp2
                    refine bodyPost_ret (results_ct rfl _ _ gb509 50 #[.int .i64 (wrap64 ((wrap64 (bt a0 0)) - 1)), .int .i64 0, .float .f64 0, .string (⟨#[]⟩ : ByteArray)] (0, 0) _ rfl (by (with_reducible repeat (first | refine blk_drewN ?_ _ | refine blk_drew ?_ | refine blk_alloc ?_ _)); refine blk_put (cs := #[.int .i64 (wrap64 ((wrap64 (bt a0 0)) - 1)), .int .i64 0, .float .f64 0, .string (⟨#[]⟩ : ByteArray)]) ?_ 3 _ rfl; (with_reducible repeat (first | refine blk_drewN ?_ _ | refine blk_drew ?_ | refine blk_alloc ?_ _)); refine blk_put (cs := #[.int .i64 (wrap64 ((wrap64 (bt a0 0)) - 1)), .int .i64 0, .float .f64 0, .string (⟨#[]⟩ : ByteArray)]) ?_ 2 _ rfl; (with_reducible repeat (first | refine blk_drewN ?_ _ | refine blk_drew ?_ | refine blk_alloc ?_ _)); refine blk_put (cs := #[.int .i64 (wrap64 ((wrap64 (bt a0 0)) - 1)), .int .i64 0, .float .f64 0, .string (⟨#[]⟩ : ByteArray)]) ?_ 1 _ rfl; (with_reducible repeat (first | refine blk_drewN ?_ _ | refine blk_drew ?_ | refine blk_alloc ?_ _)); refine blk_put (cs := #[.int .i64 0, .int .i64 0, .float .f64 0, .string (⟨#[]⟩ : ByteArray)]) ?_ 0 _ rfl; (with_reducible repeat (first | refine blk_drewN ?_ _ | refine blk_drew ?_ | refine blk_alloc ?_ _)); exact BK509.out) Tryd.underlying50 rfl (by kernel_rfl)) rfl ?_
                    exact ⟨by first | rfl | (simp [errW_none, errW_some] <;> rfl) | (simp [*, errW_none, errW_some] <;> rfl), by repeat (first | (with_reducible first | exact HB.out | apply below_alloc | apply pw_below_drewN | apply below_drew1 | refine below_set ?_ GE509.out | refine below_set ?_ GE510.out) | exact HB.out)⟩
                   ·rw [if_neg c56] at H
                    have c56b0 : decide (0 < (x7_50 / 9223372036854775808)) = false := decide_eq_false c56
                    clear c56
                    by_cases c60 : (wrap64 ((wrap64 (bt a0 1)) - 128)) < 0
                    ·rw [if_pos c60] at H
                     have c60b0 : decide ((wrap64 ((wrap64 (bt a0 1)) - 128)) < 0) = true := decide_eq_true c60
                     clear c60
                     simp only [Option.some.injEq, Prod.mk.injEq] at H
                     obtain ⟨rfl, rfl, rfl, rfl, rfl⟩ := H
                     have hnb61 := NB510_509.out
                     have hnc61 := NB509_510.out
                     have hcz62_0 : wc.cell? ⟨gb510, 0, none⟩ = some (.int .i64 (wrap64 ((wrap64 (bt a0 0)) - 1))) := (blk_cell BK510.out 0).trans rfl
                     have hcz62_1 : wc.cell? ⟨gb510, 1, none⟩ = some (.int .i64 0) := (blk_cell BK510.out 1).trans rfl
                     have hcz62_2 : wc.cell? ⟨gb510, 2, none⟩ = some (.float .f64 0) := (blk_cell BK510.out 2).trans rfl
                     have hcz62_3 : wc.cell? ⟨gb510, 3, none⟩ = some (.string (⟨#[]⟩ : ByteArray)) := (blk_cell BK510.out 3).trans rfl
                     have hfz62_0 := blk_frozen BK510.out 0
                     have hfz62_1 := blk_frozen BK510.out 1
                     have hfz62_2 := blk_frozen BK510.out 2
                     have hfz62_3 := blk_frozen BK510.out 3
                     have hcz63_0 : wc.cell? ⟨gb509, 0, none⟩ = some (.int .i64 0) := (blk_cell BK509.out 0).trans rfl
                     have hcz63_1 : wc.cell? ⟨gb509, 1, none⟩ = some (.int .i64 0) := (blk_cell BK509.out 1).trans rfl
                     have hcz63_2 : wc.cell? ⟨gb509, 2, none⟩ = some (.float .f64 0) := (blk_cell BK509.out 2).trans rfl
                     have hcz63_3 : wc.cell? ⟨gb509, 3, none⟩ = some (.string (⟨#[]⟩ : ByteArray)) := (blk_cell BK509.out 3).trans rfl
                     have hfz63_0 := blk_frozen BK509.out 0
                     have hfz63_1 := blk_frozen BK509.out 1
                     have hfz63_2 := blk_frozen BK509.out 2
                     have hfz63_3 := blk_frozen BK509.out 3
                     go_wp2
                     refine bodyPost_ret (results_ct rfl _ _ gb509 50 #[.int .i64 (wrap64 ((wrap64 (bt a0 0)) - 1)), .int .i64 (wrap64 ((wrap64 (-(wrap64 (x7_50)))) - 1)), .float .f64 0, .string (⟨#[]⟩ : ByteArray)] (0, 0) _ rfl (by (with_reducible repeat (first | refine blk_drewN ?_ _ | refine blk_drew ?_ | refine blk_alloc ?_ _)); refine blk_put (cs := #[.int .i64 (wrap64 ((wrap64 (bt a0 0)) - 1)), .int .i64 (wrap64 ((wrap64 (-(wrap64 (x7_50)))) - 1)), .float .f64 0, .string (⟨#[]⟩ : ByteArray)]) ?_ 3 _ rfl; (with_reducible repeat (first | refine blk_drewN ?_ _ | refine blk_drew ?_ | refine blk_alloc ?_ _)); refine blk_put (cs := #[.int .i64 (wrap64 ((wrap64 (bt a0 0)) - 1)), .int .i64 (wrap64 ((wrap64 (-(wrap64 (x7_50)))) - 1)), .float .f64 0, .string (⟨#[]⟩ : ByteArray)]) ?_ 2 _ rfl; (with_reducible repeat (first | refine blk_drewN ?_ _ | refine blk_drew ?_ | refine blk_alloc ?_ _)); refine blk_put (cs := #[.int .i64 (wrap64 ((wrap64 (bt a0 0)) - 1)), .int .i64 0, .float .f64 0, .string (⟨#[]⟩ : ByteArray)]) ?_ 1 _ rfl; (with_reducible repeat (first | refine blk_drewN ?_ _ | refine blk_drew ?_ | refine blk_alloc ?_ _)); refine blk_put (cs := #[.int .i64 0, .int .i64 0, .float .f64 0, .string (⟨#[]⟩ : ByteArray)]) ?_ 0 _ rfl; (with_reducible repeat (first | refine blk_drewN ?_ _ | refine blk_drew ?_ | refine blk_alloc ?_ _)); refine blk_far ?_ NB509_510.out _; (with_reducible repeat (first | refine blk_drewN ?_ _ | refine blk_drew ?_ | refine blk_alloc ?_ _)); refine blk_far ?_ NB509_510.out _; (with_reducible repeat (first | refine blk_drewN ?_ _ | refine blk_drew ?_ | refine blk_alloc ?_ _)); exact BK509.out) Tryd.underlying50 rfl (by kernel_rfl)) rfl ?_
                     exact ⟨by first | rfl | (simp [errW_none, errW_some] <;> rfl) | (simp [*, errW_none, errW_some] <;> rfl), by repeat (first | (with_reducible first | exact HB.out | apply below_alloc | apply pw_below_drewN | apply below_drew1 | refine below_set ?_ GE509.out | refine below_set ?_ GE510.out) | exact HB.out)⟩
                    ·rw [if_neg c60] at H
                     have c60b0 : decide ((wrap64 ((wrap64 (bt a0 1)) - 128)) < 0) = false := decide_eq_false c60
                     clear c60
                     simp only [Option.some.injEq, Prod.mk.injEq] at H
                     obtain ⟨rfl, rfl, rfl, rfl, rfl⟩ := H
                     have hnb64 := NB510_509.out
                     have hnc64 := NB509_510.out
                     have hcz65_0 : wc.cell? ⟨gb510, 0, none⟩ = some (.int .i64 (wrap64 ((wrap64 (bt a0 0)) - 1))) := (blk_cell BK510.out 0).trans rfl
                     have hcz65_1 : wc.cell? ⟨gb510, 1, none⟩ = some (.int .i64 0) := (blk_cell BK510.out 1).trans rfl
                     have hcz65_2 : wc.cell? ⟨gb510, 2, none⟩ = some (.float .f64 0) := (blk_cell BK510.out 2).trans rfl
                     have hcz65_3 : wc.cell? ⟨gb510, 3, none⟩ = some (.string (⟨#[]⟩ : ByteArray)) := (blk_cell BK510.out 3).trans rfl
                     have hfz65_0 := blk_frozen BK510.out 0
                     have hfz65_1 := blk_frozen BK510.out 1
                     have hfz65_2 := blk_frozen BK510.out 2
                     have hfz65_3 := blk_frozen BK510.out 3
                     have hcz66_0 : wc.cell? ⟨gb509, 0, none⟩ = some (.int .i64 0) := (blk_cell BK509.out 0).trans rfl
                     have hcz66_1 : wc.cell? ⟨gb509, 1, none⟩ = some (.int .i64 0) := (blk_cell BK509.out 1).trans rfl
                     have hcz66_2 : wc.cell? ⟨gb509, 2, none⟩ = some (.float .f64 0) := (blk_cell BK509.out 2).trans rfl
                     have hcz66_3 : wc.cell? ⟨gb509, 3, none⟩ = some (.string (⟨#[]⟩ : ByteArray)) := (blk_cell BK509.out 3).trans rfl
                     have hfz66_0 := blk_frozen BK509.out 0
                     have hfz66_1 := blk_frozen BK509.out 1
                     have hfz66_2 := blk_frozen BK509.out 2
                     have hfz66_3 := blk_frozen BK509.out 3
                     go_wp2
                     refine bodyPost_ret (results_ct rfl _ _ gb509 50 #[.int .i64 (wrap64 ((wrap64 (bt a0 0)) - 1)), .int .i64 (wrap64 (x7_50)), .float .f64 0, .string (⟨#[]⟩ : ByteArray)] (0, 0) _ rfl (by (with_reducible repeat (first | refine blk_drewN ?_ _ | refine blk_drew ?_ | refine blk_alloc ?_ _)); refine blk_put (cs := #[.int .i64 (wrap64 ((wrap64 (bt a0 0)) - 1)), .int .i64 (wrap64 (x7_50)), .float .f64 0, .string (⟨#[]⟩ : ByteArray)]) ?_ 3 _ rfl; (with_reducible repeat (first | refine blk_drewN ?_ _ | refine blk_drew ?_ | refine blk_alloc ?_ _)); refine blk_put (cs := #[.int .i64 (wrap64 ((wrap64 (bt a0 0)) - 1)), .int .i64 (wrap64 (x7_50)), .float .f64 0, .string (⟨#[]⟩ : ByteArray)]) ?_ 2 _ rfl; (with_reducible repeat (first | refine blk_drewN ?_ _ | refine blk_drew ?_ | refine blk_alloc ?_ _)); refine blk_put (cs := #[.int .i64 (wrap64 ((wrap64 (bt a0 0)) - 1)), .int .i64 0, .float .f64 0, .string (⟨#[]⟩ : ByteArray)]) ?_ 1 _ rfl; (with_reducible repeat (first | refine blk_drewN ?_ _ | refine blk_drew ?_ | refine blk_alloc ?_ _)); refine blk_put (cs := #[.int .i64 0, .int .i64 0, .float .f64 0, .string (⟨#[]⟩ : ByteArray)]) ?_ 0 _ rfl; (with_reducible repeat (first | refine blk_drewN ?_ _ | refine blk_drew ?_ | refine blk_alloc ?_ _)); refine blk_far ?_ NB509_510.out _; (with_reducible repeat (first | refine blk_drewN ?_ _ | refine blk_drew ?_ | refine blk_alloc ?_ _)); exact BK509.out) Tryd.underlying50 rfl (by kernel_rfl)) rfl ?_
                     exact ⟨by first | rfl | (simp [errW_none, errW_some] <;> rfl) | (simp [*, errW_none, errW_some] <;> rfl), by repeat (first | (with_reducible first | exact HB.out | apply below_alloc | apply pw_below_drewN | apply below_drew1 | refine below_set ?_ GE509.out | refine below_set ?_ GE510.out) | exact HB.out)⟩
                ·rw [if_neg c49] at H
                 exact absurd H (by simp)
               ·rw [if_neg c48] at H
                exact absurd H (by simp)
         ·rw [if_neg c38] at H
          exact absurd H (by simp)
        ·replace c37 := Bool.eq_false_iff.mpr c37
         subst c37
         have H1 : (if (wrap64 ((wrap64 (bt a0 0)) - 1)) = 3 then (vellumref02_back.j5 kj30 a0 (decide ((a0.size : Int) > 8)) (wrap64 ((wrap64 (bt a0 0)) - 1)) 0 0 (⟨#[]⟩ : ByteArray)) else (vellumref02_back.j5 kj30 a0 false (wrap64 ((wrap64 (bt a0 0)) - 1)) 0 0 (⟨#[]⟩ : ByteArray))) = some (r1, r2, r3, r4, r5) := by rw [if_neg (show ¬ (false = true) by decide)] at H; exact H
         clear H
         have H := H1
         clear H1
         have HC67 := Aside0.mk H
         clear H
         go_upto_region 23 with (fail)
         go_cut [100] (fun v100 wc => ∃ (kq : Nat) (x100_66 : Bool), v100 = .bool x100_66 ∧ Aside0 (vellumref02_back.j5 kq a0 x100_66 (wrap64 ((wrap64 (bt a0 0)) - 1)) 0 0 (⟨#[]⟩ : ByteArray) = some (r1, r2, r3, r4, r5)) ∧ Aside0 (kq ≤ kj30) ∧ Aside0 (wc.heap[gb509]? = some (.cells #[.int .i64 0, .int .i64 0, .float .f64 0, .string (⟨#[]⟩ : ByteArray)] 50 (0, 0))) ∧ Aside0 (wc.heap[gb510]? = some (.cells #[.int .i64 (wrap64 ((wrap64 (bt a0 0)) - 1)), .int .i64 0, .float .f64 0, .string (⟨#[]⟩ : ByteArray)] 50 (0, 0))) ∧ Aside0 (Below w.heap.size w wc))
         case first =>
          have H := HC67.out
          clear HC67
          by_cases c68 : (wrap64 ((wrap64 (bt a0 0)) - 1)) = 3
          ·rw [if_pos c68] at H
           have c68b0 : ((wrap64 ((wrap64 (bt a0 0)) - 1)) == 3) = true := beq_iff_eq.mpr c68
           have c68b1 : ((wrap64 ((wrap64 (bt a0 0)) - 1)) != 3) = false := bne_eq_false_iff_eq.mpr c68
           clear c68
           (first | rw [c68b0] | (simp only [i64_w, i32_w]; rw [c68b0]) | skip)
           have H' := Aside0.mk H
           clear H
           have hnb69 := NB510_509.out
           have hnc69 := NB509_510.out
           have hcz70_0 : wc.cell? ⟨gb510, 0, none⟩ = some (.int .i64 (wrap64 ((wrap64 (bt a0 0)) - 1))) := (blk_cell BK510.out 0).trans rfl
           have hcz70_1 : wc.cell? ⟨gb510, 1, none⟩ = some (.int .i64 0) := (blk_cell BK510.out 1).trans rfl
           have hcz70_2 : wc.cell? ⟨gb510, 2, none⟩ = some (.float .f64 0) := (blk_cell BK510.out 2).trans rfl
           have hcz70_3 : wc.cell? ⟨gb510, 3, none⟩ = some (.string (⟨#[]⟩ : ByteArray)) := (blk_cell BK510.out 3).trans rfl
           have hfz70_0 := blk_frozen BK510.out 0
           have hfz70_1 := blk_frozen BK510.out 1
           have hfz70_2 := blk_frozen BK510.out 2
           have hfz70_3 := blk_frozen BK510.out 3
           go_wp2
           go_meet
           case rel => exact ⟨_, (decide ((a0.size : Int) > 8)), (by first | rfl | (simp; done) | (simp [*]; done) | (simp [bool_ne_nil]; done) | (simp; exact bool_ne_nil _)), H', ⟨by have := HJ9.out; have := HJ30.out; first | omega | exact Nat.le_refl _⟩, ⟨by (with_reducible repeat (first | refine blk_drewN ?_ _ | refine blk_drew ?_ | refine blk_alloc ?_ _)); exact BK509.out⟩, ⟨by (with_reducible repeat (first | refine blk_drewN ?_ _ | refine blk_drew ?_ | refine blk_alloc ?_ _)); exact BK510.out⟩, ⟨by repeat (first | (with_reducible first | exact HB.out | apply below_alloc | apply pw_below_drewN | apply below_drew1 | refine below_set ?_ GE509.out | refine below_set ?_ GE510.out) | exact HB.out)⟩⟩
          ·rw [if_neg c68] at H
           have c68b0 : ((wrap64 ((wrap64 (bt a0 0)) - 1)) == 3) = false := beq_eq_false_iff_ne.mpr c68
           have c68b1 : ((wrap64 ((wrap64 (bt a0 0)) - 1)) != 3) = true := bne_iff_ne.mpr c68
           (first | rw [c68b0] | (simp only [i64_w, i32_w]; rw [c68b0]) | skip)
           have H' := Aside0.mk H
           clear H
           have hnb71 := NB510_509.out
           have hnc71 := NB509_510.out
           have hcz72_0 : wc.cell? ⟨gb510, 0, none⟩ = some (.int .i64 (wrap64 ((wrap64 (bt a0 0)) - 1))) := (blk_cell BK510.out 0).trans rfl
           have hcz72_1 : wc.cell? ⟨gb510, 1, none⟩ = some (.int .i64 0) := (blk_cell BK510.out 1).trans rfl
           have hcz72_2 : wc.cell? ⟨gb510, 2, none⟩ = some (.float .f64 0) := (blk_cell BK510.out 2).trans rfl
           have hcz72_3 : wc.cell? ⟨gb510, 3, none⟩ = some (.string (⟨#[]⟩ : ByteArray)) := (blk_cell BK510.out 3).trans rfl
           have hfz72_0 := blk_frozen BK510.out 0
           have hfz72_1 := blk_frozen BK510.out 1
           have hfz72_2 := blk_frozen BK510.out 2
           have hfz72_3 := blk_frozen BK510.out 3
           go_wp2
           go_meet
           case rel => exact ⟨_, (false), (by first | rfl | (simp; done) | (simp [*]; done) | (simp [bool_ne_nil]; done) | (simp; exact bool_ne_nil _)), H', ⟨by have := HJ9.out; have := HJ30.out; first | omega | exact Nat.le_refl _⟩, ⟨by (with_reducible repeat (first | refine blk_drewN ?_ _ | refine blk_drew ?_ | refine blk_alloc ?_ _)); exact BK509.out⟩, ⟨by (with_reducible repeat (first | refine blk_drewN ?_ _ | refine blk_drew ?_ | refine blk_alloc ?_ _)); exact BK510.out⟩, ⟨by repeat (first | (with_reducible first | exact HB.out | apply below_alloc | apply pw_below_drewN | apply below_drew1 | refine below_set ?_ GE509.out | refine below_set ?_ GE510.out) | exact HB.out)⟩⟩
         case rest =>
          clear HC67
          (try clear c1); (try clear p1); (try clear q1); (try clear hx1); (try clear qi1); (try clear c2); (try clear c2b0); (try clear c2b1); (try clear p2); (try clear q2); (try clear hx2); (try clear qi2); (try clear c3); (try clear p3); (try clear q3); (try clear hx3); (try clear qi3); (try clear c4); (try clear c4b0); (try clear c4b1); (try clear c5); (try clear c6); (try clear p6); (try clear c7); (try clear c11); (try clear c13); (try clear c15); (try clear c15b0); (try clear c15b1); (try clear c16); (try clear c16b0); (try clear c16b1); (try clear c17); (try clear c17b0); (try clear c17b1); (try clear p18); (try clear q18); (try clear hx18); (try clear qi18); (try clear c19); (try clear c21); (try clear c23); (try clear c25); (try clear c26); (try clear c26b0); (try clear c26b1); (try clear p27); (try clear q27); (try clear hx27); (try clear qi27); (try clear c28); (try clear c32); (try clear c32b0); (try clear c32b1); (try clear c33); (try clear c35); (try clear c37); (try clear c38); (try clear c38b0); (try clear c38b1); (try clear p39); (try clear q39); (try clear hx39); (try clear qi39); (try clear c41); (try clear c41b0); (try clear c43); (try clear c43b0); (try clear c44); (try clear c45); (try clear c48); (try clear c48b0); (try clear c48b1); (try clear c49); (try clear c49b0); (try clear c49b1); (try clear c52); (try clear c52b0); (try clear c54); (try clear c54b0); (try clear c54b1); (try clear c56); (try clear c56b0); (try clear c57); (try clear c60); (try clear c60b0); (try clear c61); (try clear c64); (try clear p64); (try clear c68); (try clear c68b0); (try clear c68b1); (try clear c69); (try clear c71); (try clear hcz14_0); (try clear hcz14_1); (try clear hcz14_2); (try clear hcz14_3); (try clear hcz20_0); (try clear hcz20_1); (try clear hcz20_2); (try clear hcz20_3); (try clear hcz22_0); (try clear hcz22_1); (try clear hcz22_2); (try clear hcz22_3); (try clear hcz24_0); (try clear hcz24_1); (try clear hcz24_2); (try clear hcz24_3); (try clear hcz29_0); (try clear hcz29_1); (try clear hcz29_2); (try clear hcz29_3); (try clear hcz30_0); (try clear hcz30_1); (try clear hcz30_2); (try clear hcz30_3); (try clear hcz34_0); (try clear hcz34_1); (try clear hcz34_2); (try clear hcz34_3); (try clear hcz36_0); (try clear hcz36_1); (try clear hcz36_2); (try clear hcz36_3); (try clear hcz46_0); (try clear hcz46_1); (try clear hcz46_2); (try clear hcz46_3); (try clear hcz47_0); (try clear hcz47_1); (try clear hcz47_2); (try clear hcz47_3); (try clear hcz58_0); (try clear hcz58_1); (try clear hcz58_2); (try clear hcz58_3); (try clear hcz59_0); (try clear hcz59_1); (try clear hcz59_2); (try clear hcz59_3); (try clear hcz62_0); (try clear hcz62_1); (try clear hcz62_2); (try clear hcz62_3); (try clear hcz63_0); (try clear hcz63_1); (try clear hcz63_2); (try clear hcz63_3); (try clear hcz65_0); (try clear hcz65_1); (try clear hcz65_2); (try clear hcz65_3); (try clear hcz66_0); (try clear hcz66_1); (try clear hcz66_2); (try clear hcz66_3); (try clear hcz70_0); (try clear hcz70_1); (try clear hcz70_2); (try clear hcz70_3); (try clear hcz72_0); (try clear hcz72_1); (try clear hcz72_2); (try clear hcz72_3); (try clear hcz8_0); (try clear hcz8_1); (try clear hcz8_2); (try clear hcz8_3); (try clear hcz9_0); (try clear hcz9_1); (try clear hcz9_2); (try clear hcz9_3); (try clear hfz14_0); (try clear hfz14_1); (try clear hfz14_2); (try clear hfz14_3); (try clear hfz20_0); (try clear hfz20_1); (try clear hfz20_2); (try clear hfz20_3); (try clear hfz22_0); (try clear hfz22_1); (try clear hfz22_2); (try clear hfz22_3); (try clear hfz24_0); (try clear hfz24_1); (try clear hfz24_2); (try clear hfz24_3); (try clear hfz29_0); (try clear hfz29_1); (try clear hfz29_2); (try clear hfz29_3); (try clear hfz30_0); (try clear hfz30_1); (try clear hfz30_2); (try clear hfz30_3); (try clear hfz34_0); (try clear hfz34_1); (try clear hfz34_2); (try clear hfz34_3); (try clear hfz36_0); (try clear hfz36_1); (try clear hfz36_2); (try clear hfz36_3); (try clear hfz46_0); (try clear hfz46_1); (try clear hfz46_2); (try clear hfz46_3); (try clear hfz47_0); (try clear hfz47_1); (try clear hfz47_2); (try clear hfz47_3); (try clear hfz58_0); (try clear hfz58_1); (try clear hfz58_2); (try clear hfz58_3); (try clear hfz59_0); (try clear hfz59_1); (try clear hfz59_2); (try clear hfz59_3); (try clear hfz62_0); (try clear hfz62_1); (try clear hfz62_2); (try clear hfz62_3); (try clear hfz63_0); (try clear hfz63_1); (try clear hfz63_2); (try clear hfz63_3); (try clear hfz65_0); (try clear hfz65_1); (try clear hfz65_2); (try clear hfz65_3); (try clear hfz66_0); (try clear hfz66_1); (try clear hfz66_2); (try clear hfz66_3); (try clear hfz70_0); (try clear hfz70_1); (try clear hfz70_2); (try clear hfz70_3); (try clear hfz72_0); (try clear hfz72_1); (try clear hfz72_2); (try clear hfz72_3); (try clear hfz8_0); (try clear hfz8_1); (try clear hfz8_2); (try clear hfz8_3); (try clear hfz9_0); (try clear hfz9_1); (try clear hfz9_2); (try clear hfz9_3); (try clear p1); (try clear p18); (try clear p2); (try clear p27); (try clear p3); (try clear p39); (try clear p6); (try clear q1); (try clear q18); (try clear q2); (try clear q27); (try clear q3); (try clear q39)
          obtain ⟨kq, x100_66, rfl, HA, HJ66, BK509, BK510, HB⟩ := hcut
          cases kq with
          | zero => exact absurd HA.out (by simp [vellumref02_back.j5])
          | succ kj66 =>
           have H := HA.out
           clear HA
           simp only [vellumref02_back.j5] at H
           by_cases c73 : x100_66 = true
           ·subst c73
            have H1 : (if 1 ≤ 9 then (if 9 ≤ (a0.size : Int) then ((vellumref02_number.f kj66 (a0.extract 1 9)).bind fun t512 => (if (t512 / 9223372036854775808) > 0 then (some ((wrap64 ((wrap64 (bt a0 0)) - 1)), 0, (Go.bits .xor .u64 t512 9223372036854775808).toNat, (⟨#[]⟩ : ByteArray), 9)) else (some ((wrap64 ((wrap64 (bt a0 0)) - 1)), 0, (not64 t512).toNat, (⟨#[]⟩ : ByteArray), 9)))) else (none)) else (none)) = some (r1, r2, r3, r4, r5) := by rw [if_pos rfl] at H; exact H
            clear H
            have H := H1
            clear H1
            by_cases c74 : 1 ≤ 9
            ·rw [if_pos c74] at H
             have c74b0 := eq_true c74
             have c74b1 : decide (1 ≤ 9) = true := decide_eq_true c74
             clear c74
             by_cases c75 : 9 ≤ (a0.size : Int)
             ·rw [if_pos c75] at H
              have c75b0 := eq_true c75
              have c75b1 : decide (9 ≤ (a0.size : Int)) = true := decide_eq_true c75
              clear c75
              replace H := Option.bind_eq_some_iff.mp H
              obtain ⟨t512, A760, H⟩ := H
              replace H : (if (t512 / 9223372036854775808) > 0 then (some ((wrap64 ((wrap64 (bt a0 0)) - 1)), 0, (Go.bits .xor .u64 t512 9223372036854775808).toNat, (⟨#[]⟩ : ByteArray), 9)) else (some ((wrap64 ((wrap64 (bt a0 0)) - 1)), 0, (not64 t512).toNat, (⟨#[]⟩ : ByteArray), 9))) = some (r1, r2, r3, r4, r5) := H
              have A76 := Aside0.mk A760
              clear A760
              by_cases c77 : (t512 / 9223372036854775808) > 0
              ·rw [if_pos c77] at H
               have c77b0 : decide (0 < (t512 / 9223372036854775808)) = true := decide_eq_true c77
               clear c77
               simp only [Option.some.injEq, Prod.mk.injEq] at H
               obtain ⟨rfl, rfl, rfl, rfl, rfl⟩ := H
               go_wp2_with (first | ((with_reducible refine gate_callee (f := 114) rfl ?_); refine goesL_ (some 111) rfl rfl Tryd.func114 (by kernel_rfl) rfl #[.string (a0.extract 1 9)] rfl (by (try simp only [List.map_toArray, List.map_cons, List.map_nil]); first | done | rfl | (simp only [List.length_drop, List.length_take]; rfl)) ?_; (with_reducible refine (vellumref02_number.calls kj66 (a0.extract 1 9) t512 _ A76.out).mono ?_); rintro e w' ⟨rfl, ⟨nd, rfl⟩⟩; refine ⟨_, rfl, ?_⟩; (try (rw [drewN_self wc]; generalize hq_ : World.drewN wc _ = wc; have n0_ : Aside0 (wc.heap[gb509]? = some (.cells #[.int .i64 0, .int .i64 0, .float .f64 0, .string (⟨#[]⟩ : ByteArray)] 50 (0, 0))) := ⟨by rw [← hq_]; exact (by (with_reducible repeat (first | refine blk_drewN ?_ _ | refine blk_drew ?_ | refine blk_alloc ?_ _)); exact BK509.out)⟩; have n1_ : Aside0 (wc.heap[gb510]? = some (.cells #[.int .i64 (wrap64 ((wrap64 (bt a0 0)) - 1)), .int .i64 0, .float .f64 0, .string (⟨#[]⟩ : ByteArray)] 50 (0, 0))) := ⟨by rw [← hq_]; exact (by (with_reducible repeat (first | refine blk_drewN ?_ _ | refine blk_drew ?_ | refine blk_alloc ?_ _)); exact BK510.out)⟩; have n2_ : Aside0 (Below w.heap.size w wc) := ⟨by rw [← hq_]; exact (by repeat (first | (with_reducible first | exact HB.out | apply below_alloc | apply pw_below_drewN | apply below_drew1 | refine below_set ?_ GE509.out | refine below_set ?_ GE510.out) | exact HB.out))⟩; clear BK509 BK510 HB hq_; have BK509 := n0_; have BK510 := n1_; have HB := n2_; clear n0_ n1_ n2_)); (try have hczuz78 : wc.cell? ⟨gb509, 0, none⟩ = some (.int .i64 0) := (blk_cell BK509.out 0).trans rfl); (try have hfzuz78 := blk_frozen BK509.out 0); (try have hczuz79 : wc.cell? ⟨gb509, 1, none⟩ = some (.int .i64 0) := (blk_cell BK509.out 1).trans rfl); (try have hfzuz79 := blk_frozen BK509.out 1); (try have hczuz80 : wc.cell? ⟨gb509, 2, none⟩ = some (.float .f64 0) := (blk_cell BK509.out 2).trans rfl); (try have hfzuz80 := blk_frozen BK509.out 2); (try have hczuz81 : wc.cell? ⟨gb509, 3, none⟩ = some (.string (⟨#[]⟩ : ByteArray)) := (blk_cell BK509.out 3).trans rfl); (try have hfzuz81 := blk_frozen BK509.out 3); (try have hczuz82 : wc.cell? ⟨gb510, 0, none⟩ = some (.int .i64 (wrap64 ((wrap64 (bt a0 0)) - 1))) := (blk_cell BK510.out 0).trans rfl); (try have hfzuz82 := blk_frozen BK510.out 0); (try have hczuz83 : wc.cell? ⟨gb510, 1, none⟩ = some (.int .i64 0) := (blk_cell BK510.out 1).trans rfl); (try have hfzuz83 := blk_frozen BK510.out 1); (try have hczuz84 : wc.cell? ⟨gb510, 2, none⟩ = some (.float .f64 0) := (blk_cell BK510.out 2).trans rfl); (try have hfzuz84 := blk_frozen BK510.out 2); (try have hczuz85 : wc.cell? ⟨gb510, 3, none⟩ = some (.string (⟨#[]⟩ : ByteArray)) := (blk_cell BK510.out 3).trans rfl); (try have hfzuz85 := blk_frozen BK510.out 3); have hnb86 := NB510_509.out; have hnc86 := NB509_510.out; have hcz87_0 : wc.cell? ⟨gb510, 0, none⟩ = some (.int .i64 (wrap64 ((wrap64 (bt a0 0)) - 1))) := (blk_cell BK510.out 0).trans rfl; have hcz87_1 : wc.cell? ⟨gb510, 1, none⟩ = some (.int .i64 0) := (blk_cell BK510.out 1).trans rfl; have hcz87_2 : wc.cell? ⟨gb510, 2, none⟩ = some (.float .f64 0) := (blk_cell BK510.out 2).trans rfl; have hcz87_3 : wc.cell? ⟨gb510, 3, none⟩ = some (.string (⟨#[]⟩ : ByteArray)) := (blk_cell BK510.out 3).trans rfl; have hfz87_0 := blk_frozen BK510.out 0; have hfz87_1 := blk_frozen BK510.out 1; have hfz87_2 := blk_frozen BK510.out 2; have hfz87_3 := blk_frozen BK510.out 3; have hcz88_0 : wc.cell? ⟨gb509, 0, none⟩ = some (.int .i64 0) := (blk_cell BK509.out 0).trans rfl; have hcz88_1 : wc.cell? ⟨gb509, 1, none⟩ = some (.int .i64 0) := (blk_cell BK509.out 1).trans rfl; have hcz88_2 : wc.cell? ⟨gb509, 2, none⟩ = some (.float .f64 0) := (blk_cell BK509.out 2).trans rfl; have hcz88_3 : wc.cell? ⟨gb509, 3, none⟩ = some (.string (⟨#[]⟩ : ByteArray)) := (blk_cell BK509.out 3).trans rfl; have hfz88_0 := blk_frozen BK509.out 0; have hfz88_1 := blk_frozen BK509.out 1; have hfz88_2 := blk_frozen BK509.out 2; have hfz88_3 := blk_frozen BK509.out 3))
               refine bodyPost_ret (results_ct rfl _ _ gb509 50 #[.int .i64 (wrap64 ((wrap64 (bt a0 0)) - 1)), .int .i64 0, .float .f64 ((Go.bits .xor .u64 t512 9223372036854775808).toNat), .string (⟨#[]⟩ : ByteArray)] (0, 0) _ rfl (by (with_reducible repeat (first | refine blk_drewN ?_ _ | refine blk_drew ?_ | refine blk_alloc ?_ _)); refine blk_put (cs := #[.int .i64 (wrap64 ((wrap64 (bt a0 0)) - 1)), .int .i64 0, .float .f64 ((Go.bits .xor .u64 t512 9223372036854775808).toNat), .string (⟨#[]⟩ : ByteArray)]) ?_ 3 _ rfl; (with_reducible repeat (first | refine blk_drewN ?_ _ | refine blk_drew ?_ | refine blk_alloc ?_ _)); refine blk_put (cs := #[.int .i64 (wrap64 ((wrap64 (bt a0 0)) - 1)), .int .i64 0, .float .f64 0, .string (⟨#[]⟩ : ByteArray)]) ?_ 2 _ rfl; (with_reducible repeat (first | refine blk_drewN ?_ _ | refine blk_drew ?_ | refine blk_alloc ?_ _)); refine blk_put (cs := #[.int .i64 (wrap64 ((wrap64 (bt a0 0)) - 1)), .int .i64 0, .float .f64 0, .string (⟨#[]⟩ : ByteArray)]) ?_ 1 _ rfl; (with_reducible repeat (first | refine blk_drewN ?_ _ | refine blk_drew ?_ | refine blk_alloc ?_ _)); refine blk_put (cs := #[.int .i64 0, .int .i64 0, .float .f64 0, .string (⟨#[]⟩ : ByteArray)]) ?_ 0 _ rfl; (with_reducible repeat (first | refine blk_drewN ?_ _ | refine blk_drew ?_ | refine blk_alloc ?_ _)); refine blk_far ?_ NB509_510.out _; (with_reducible repeat (first | refine blk_drewN ?_ _ | refine blk_drew ?_ | refine blk_alloc ?_ _)); exact BK509.out) Tryd.underlying50 rfl (by kernel_rfl)) rfl ?_
               exact ⟨by first | rfl | (simp [errW_none, errW_some] <;> rfl) | (simp [*, errW_none, errW_some] <;> rfl), by repeat (first | (with_reducible first | exact HB.out | apply below_alloc | apply pw_below_drewN | apply below_drew1 | refine below_set ?_ GE509.out | refine below_set ?_ GE510.out) | exact HB.out)⟩
              ·rw [if_neg c77] at H
               have c77b0 : decide (0 < (t512 / 9223372036854775808)) = false := decide_eq_false c77
               clear c77
               simp only [Option.some.injEq, Prod.mk.injEq] at H
               obtain ⟨rfl, rfl, rfl, rfl, rfl⟩ := H
               go_wp2_with (first | ((with_reducible refine gate_callee (f := 114) rfl ?_); refine goesL_ (some 111) rfl rfl Tryd.func114 (by kernel_rfl) rfl #[.string (a0.extract 1 9)] rfl (by (try simp only [List.map_toArray, List.map_cons, List.map_nil]); first | done | rfl | (simp only [List.length_drop, List.length_take]; rfl)) ?_; (with_reducible refine (vellumref02_number.calls kj66 (a0.extract 1 9) t512 _ A76.out).mono ?_); rintro e w' ⟨rfl, ⟨nd, rfl⟩⟩; refine ⟨_, rfl, ?_⟩; (try (rw [drewN_self wc]; generalize hq_ : World.drewN wc _ = wc; have n0_ : Aside0 (wc.heap[gb509]? = some (.cells #[.int .i64 0, .int .i64 0, .float .f64 0, .string (⟨#[]⟩ : ByteArray)] 50 (0, 0))) := ⟨by rw [← hq_]; exact (by (with_reducible repeat (first | refine blk_drewN ?_ _ | refine blk_drew ?_ | refine blk_alloc ?_ _)); exact BK509.out)⟩; have n1_ : Aside0 (wc.heap[gb510]? = some (.cells #[.int .i64 (wrap64 ((wrap64 (bt a0 0)) - 1)), .int .i64 0, .float .f64 0, .string (⟨#[]⟩ : ByteArray)] 50 (0, 0))) := ⟨by rw [← hq_]; exact (by (with_reducible repeat (first | refine blk_drewN ?_ _ | refine blk_drew ?_ | refine blk_alloc ?_ _)); exact BK510.out)⟩; have n2_ : Aside0 (Below w.heap.size w wc) := ⟨by rw [← hq_]; exact (by repeat (first | (with_reducible first | exact HB.out | apply below_alloc | apply pw_below_drewN | apply below_drew1 | refine below_set ?_ GE509.out | refine below_set ?_ GE510.out) | exact HB.out))⟩; clear BK509 BK510 HB hq_; have BK509 := n0_; have BK510 := n1_; have HB := n2_; clear n0_ n1_ n2_)); (try have hczuz89 : wc.cell? ⟨gb509, 0, none⟩ = some (.int .i64 0) := (blk_cell BK509.out 0).trans rfl); (try have hfzuz89 := blk_frozen BK509.out 0); (try have hczuz90 : wc.cell? ⟨gb509, 1, none⟩ = some (.int .i64 0) := (blk_cell BK509.out 1).trans rfl); (try have hfzuz90 := blk_frozen BK509.out 1); (try have hczuz91 : wc.cell? ⟨gb509, 2, none⟩ = some (.float .f64 0) := (blk_cell BK509.out 2).trans rfl); (try have hfzuz91 := blk_frozen BK509.out 2); (try have hczuz92 : wc.cell? ⟨gb509, 3, none⟩ = some (.string (⟨#[]⟩ : ByteArray)) := (blk_cell BK509.out 3).trans rfl); (try have hfzuz92 := blk_frozen BK509.out 3); (try have hczuz93 : wc.cell? ⟨gb510, 0, none⟩ = some (.int .i64 (wrap64 ((wrap64 (bt a0 0)) - 1))) := (blk_cell BK510.out 0).trans rfl); (try have hfzuz93 := blk_frozen BK510.out 0); (try have hczuz94 : wc.cell? ⟨gb510, 1, none⟩ = some (.int .i64 0) := (blk_cell BK510.out 1).trans rfl); (try have hfzuz94 := blk_frozen BK510.out 1); (try have hczuz95 : wc.cell? ⟨gb510, 2, none⟩ = some (.float .f64 0) := (blk_cell BK510.out 2).trans rfl); (try have hfzuz95 := blk_frozen BK510.out 2); (try have hczuz96 : wc.cell? ⟨gb510, 3, none⟩ = some (.string (⟨#[]⟩ : ByteArray)) := (blk_cell BK510.out 3).trans rfl); (try have hfzuz96 := blk_frozen BK510.out 3); have hnb97 := NB510_509.out; have hnc97 := NB509_510.out; have hcz98_0 : wc.cell? ⟨gb510, 0, none⟩ = some (.int .i64 (wrap64 ((wrap64 (bt a0 0)) - 1))) := (blk_cell BK510.out 0).trans rfl; have hcz98_1 : wc.cell? ⟨gb510, 1, none⟩ = some (.int .i64 0) := (blk_cell BK510.out 1).trans rfl; have hcz98_2 : wc.cell? ⟨gb510, 2, none⟩ = some (.float .f64 0) := (blk_cell BK510.out 2).trans rfl; have hcz98_3 : wc.cell? ⟨gb510, 3, none⟩ = some (.string (⟨#[]⟩ : ByteArray)) := (blk_cell BK510.out 3).trans rfl; have hfz98_0 := blk_frozen BK510.out 0; have hfz98_1 := blk_frozen BK510.out 1; have hfz98_2 := blk_frozen BK510.out 2; have hfz98_3 := blk_frozen BK510.out 3; have hcz99_0 : wc.cell? ⟨gb509, 0, none⟩ = some (.int .i64 0) := (blk_cell BK509.out 0).trans rfl; have hcz99_1 : wc.cell? ⟨gb509, 1, none⟩ = some (.int .i64 0) := (blk_cell BK509.out 1).trans rfl; have hcz99_2 : wc.cell? ⟨gb509, 2, none⟩ = some (.float .f64 0) := (blk_cell BK509.out 2).trans rfl; have hcz99_3 : wc.cell? ⟨gb509, 3, none⟩ = some (.string (⟨#[]⟩ : ByteArray)) := (blk_cell BK509.out 3).trans rfl; have hfz99_0 := blk_frozen BK509.out 0; have hfz99_1 := blk_frozen BK509.out 1; have hfz99_2 := blk_frozen BK509.out 2; have hfz99_3 := blk_frozen BK509.out 3))
               refine bodyPost_ret (results_ct rfl _ _ gb509 50 #[.int .i64 (wrap64 ((wrap64 (bt a0 0)) - 1)), .int .i64 0, .float .f64 ((not64 t512).toNat), .string (⟨#[]⟩ : ByteArray)] (0, 0) _ rfl (by (with_reducible repeat (first | refine blk_drewN ?_ _ | refine blk_drew ?_ | refine blk_alloc ?_ _)); refine blk_put (cs := #[.int .i64 (wrap64 ((wrap64 (bt a0 0)) - 1)), .int .i64 0, .float .f64 ((not64 t512).toNat), .string (⟨#[]⟩ : ByteArray)]) ?_ 3 _ rfl; (with_reducible repeat (first | refine blk_drewN ?_ _ | refine blk_drew ?_ | refine blk_alloc ?_ _)); refine blk_put (cs := #[.int .i64 (wrap64 ((wrap64 (bt a0 0)) - 1)), .int .i64 0, .float .f64 0, .string (⟨#[]⟩ : ByteArray)]) ?_ 2 _ rfl; (with_reducible repeat (first | refine blk_drewN ?_ _ | refine blk_drew ?_ | refine blk_alloc ?_ _)); refine blk_put (cs := #[.int .i64 (wrap64 ((wrap64 (bt a0 0)) - 1)), .int .i64 0, .float .f64 0, .string (⟨#[]⟩ : ByteArray)]) ?_ 1 _ rfl; (with_reducible repeat (first | refine blk_drewN ?_ _ | refine blk_drew ?_ | refine blk_alloc ?_ _)); refine blk_put (cs := #[.int .i64 0, .int .i64 0, .float .f64 0, .string (⟨#[]⟩ : ByteArray)]) ?_ 0 _ rfl; (with_reducible repeat (first | refine blk_drewN ?_ _ | refine blk_drew ?_ | refine blk_alloc ?_ _)); refine blk_far ?_ NB509_510.out _; (with_reducible repeat (first | refine blk_drewN ?_ _ | refine blk_drew ?_ | refine blk_alloc ?_ _)); exact BK509.out) Tryd.underlying50 rfl (by kernel_rfl)) rfl ?_
               exact ⟨by first | rfl | (simp [errW_none, errW_some] <;> rfl) | (simp [*, errW_none, errW_some] <;> rfl), by repeat (first | (with_reducible first | exact HB.out | apply below_alloc | apply pw_below_drewN | apply below_drew1 | refine below_set ?_ GE509.out | refine below_set ?_ GE510.out) | exact HB.out)⟩
             ·rw [if_neg c75] at H
              exact absurd H (by simp)
            ·rw [if_neg c74] at H
             exact absurd H (by simp)
           ·replace c73 := Bool.eq_false_iff.mpr c73
            subst c73
            have H1 : (if (wrap64 ((wrap64 (bt a0 0)) - 1)) = 4 then (vellumref02_back.j6 kj66 a0 true (wrap64 ((wrap64 (bt a0 0)) - 1)) 0 0 (⟨#[]⟩ : ByteArray)) else (vellumref02_back.j6 kj66 a0 ((wrap64 ((wrap64 (bt a0 0)) - 1)) == 5) (wrap64 ((wrap64 (bt a0 0)) - 1)) 0 0 (⟨#[]⟩ : ByteArray))) = some (r1, r2, r3, r4, r5) := by rw [if_neg (show ¬ (false = true) by decide)] at H; exact H
            clear H
            have H := H1
            clear H1
            have HC100 := Aside0.mk H
            clear H
            go_upto_region 30 with (fail)
            go_cut [123] (fun v123 wc => ∃ (kq : Nat) (x123_99 : Bool), v123 = .bool x123_99 ∧ Aside0 (vellumref02_back.j6 kq a0 x123_99 (wrap64 ((wrap64 (bt a0 0)) - 1)) 0 0 (⟨#[]⟩ : ByteArray) = some (r1, r2, r3, r4, r5)) ∧ Aside0 (kq ≤ kj66) ∧ Aside0 (wc.heap[gb509]? = some (.cells #[.int .i64 0, .int .i64 0, .float .f64 0, .string (⟨#[]⟩ : ByteArray)] 50 (0, 0))) ∧ Aside0 (wc.heap[gb510]? = some (.cells #[.int .i64 (wrap64 ((wrap64 (bt a0 0)) - 1)), .int .i64 0, .float .f64 0, .string (⟨#[]⟩ : ByteArray)] 50 (0, 0))) ∧ Aside0 (Below w.heap.size w wc))
            case first =>
             have H := HC100.out
             clear HC100
             by_cases c101 : (wrap64 ((wrap64 (bt a0 0)) - 1)) = 4
             ·rw [if_pos c101] at H
              have c101b0 : ((wrap64 ((wrap64 (bt a0 0)) - 1)) == 4) = true := beq_iff_eq.mpr c101
              have c101b1 : ((wrap64 ((wrap64 (bt a0 0)) - 1)) != 4) = false := bne_eq_false_iff_eq.mpr c101
              clear c101
              (first | rw [c101b0] | (simp only [i64_w, i32_w]; rw [c101b0]) | skip)
              have H' := Aside0.mk H
              clear H
              have hnb102 := NB510_509.out
              have hnc102 := NB509_510.out
              have hcz103_0 : wc.cell? ⟨gb510, 0, none⟩ = some (.int .i64 (wrap64 ((wrap64 (bt a0 0)) - 1))) := (blk_cell BK510.out 0).trans rfl
              have hcz103_1 : wc.cell? ⟨gb510, 1, none⟩ = some (.int .i64 0) := (blk_cell BK510.out 1).trans rfl
              have hcz103_2 : wc.cell? ⟨gb510, 2, none⟩ = some (.float .f64 0) := (blk_cell BK510.out 2).trans rfl
              have hcz103_3 : wc.cell? ⟨gb510, 3, none⟩ = some (.string (⟨#[]⟩ : ByteArray)) := (blk_cell BK510.out 3).trans rfl
              have hfz103_0 := blk_frozen BK510.out 0
              have hfz103_1 := blk_frozen BK510.out 1
              have hfz103_2 := blk_frozen BK510.out 2
              have hfz103_3 := blk_frozen BK510.out 3
              go_wp2
              go_meet
              case rel => exact ⟨_, (true), (by first | rfl | (simp; done) | (simp [*]; done) | (simp [bool_ne_nil]; done) | (simp; exact bool_ne_nil _)), H', ⟨by have := HJ9.out; have := HJ30.out; have := HJ66.out; first | omega | exact Nat.le_refl _⟩, ⟨by (with_reducible repeat (first | refine blk_drewN ?_ _ | refine blk_drew ?_ | refine blk_alloc ?_ _)); exact BK509.out⟩, ⟨by (with_reducible repeat (first | refine blk_drewN ?_ _ | refine blk_drew ?_ | refine blk_alloc ?_ _)); exact BK510.out⟩, ⟨by repeat (first | (with_reducible first | exact HB.out | apply below_alloc | apply pw_below_drewN | apply below_drew1 | refine below_set ?_ GE509.out | refine below_set ?_ GE510.out) | exact HB.out)⟩⟩
             ·rw [if_neg c101] at H
              have c101b0 : ((wrap64 ((wrap64 (bt a0 0)) - 1)) == 4) = false := beq_eq_false_iff_ne.mpr c101
              have c101b1 : ((wrap64 ((wrap64 (bt a0 0)) - 1)) != 4) = true := bne_iff_ne.mpr c101
              (first | rw [c101b0] | (simp only [i64_w, i32_w]; rw [c101b0]) | skip)
              have H' := Aside0.mk H
              clear H
              have hnb104 := NB510_509.out
              have hnc104 := NB509_510.out
              have hcz105_0 : wc.cell? ⟨gb510, 0, none⟩ = some (.int .i64 (wrap64 ((wrap64 (bt a0 0)) - 1))) := (blk_cell BK510.out 0).trans rfl
              have hcz105_1 : wc.cell? ⟨gb510, 1, none⟩ = some (.int .i64 0) := (blk_cell BK510.out 1).trans rfl
              have hcz105_2 : wc.cell? ⟨gb510, 2, none⟩ = some (.float .f64 0) := (blk_cell BK510.out 2).trans rfl
              have hcz105_3 : wc.cell? ⟨gb510, 3, none⟩ = some (.string (⟨#[]⟩ : ByteArray)) := (blk_cell BK510.out 3).trans rfl
              have hfz105_0 := blk_frozen BK510.out 0
              have hfz105_1 := blk_frozen BK510.out 1
              have hfz105_2 := blk_frozen BK510.out 2
              have hfz105_3 := blk_frozen BK510.out 3
              go_wp2
              go_meet
              case rel => exact ⟨_, (((wrap64 ((wrap64 (bt a0 0)) - 1)) == 5)), (by first | rfl | (simp; done) | (simp [*]; done) | (simp [bool_ne_nil]; done) | (simp; exact bool_ne_nil _)), H', ⟨by have := HJ9.out; have := HJ30.out; have := HJ66.out; first | omega | exact Nat.le_refl _⟩, ⟨by (with_reducible repeat (first | refine blk_drewN ?_ _ | refine blk_drew ?_ | refine blk_alloc ?_ _)); exact BK509.out⟩, ⟨by (with_reducible repeat (first | refine blk_drewN ?_ _ | refine blk_drew ?_ | refine blk_alloc ?_ _)); exact BK510.out⟩, ⟨by repeat (first | (with_reducible first | exact HB.out | apply below_alloc | apply pw_below_drewN | apply below_drew1 | refine below_set ?_ GE509.out | refine below_set ?_ GE510.out) | exact HB.out)⟩⟩
            case rest =>
             clear HC100
             (try clear c1); (try clear p1); (try clear q1); (try clear hx1); (try clear qi1); (try clear c2); (try clear c2b0); (try clear c2b1); (try clear p2); (try clear q2); (try clear hx2); (try clear qi2); (try clear c3); (try clear p3); (try clear q3); (try clear hx3); (try clear qi3); (try clear c4); (try clear c4b0); (try clear c4b1); (try clear c5); (try clear c6); (try clear p6); (try clear c7); (try clear c8); (try clear c9); (try clear c10); (try clear c11); (try clear c13); (try clear c15); (try clear c15b0); (try clear c15b1); (try clear c16); (try clear c16b0); (try clear c16b1); (try clear c17); (try clear c17b0); (try clear c17b1); (try clear p18); (try clear q18); (try clear hx18); (try clear qi18); (try clear c19); (try clear c21); (try clear c23); (try clear c25); (try clear c26); (try clear c26b0); (try clear c26b1); (try clear p27); (try clear q27); (try clear hx27); (try clear qi27); (try clear c28); (try clear c32); (try clear c32b0); (try clear c32b1); (try clear c33); (try clear c35); (try clear c37); (try clear c38); (try clear c38b0); (try clear c38b1); (try clear p39); (try clear q39); (try clear hx39); (try clear qi39); (try clear c41); (try clear c41b0); (try clear c43); (try clear c43b0); (try clear c44); (try clear c45); (try clear c48); (try clear c48b0); (try clear c48b1); (try clear c49); (try clear c49b0); (try clear c49b1); (try clear c52); (try clear c52b0); (try clear c54); (try clear c54b0); (try clear c54b1); (try clear c56); (try clear c56b0); (try clear c57); (try clear c60); (try clear c60b0); (try clear c61); (try clear c64); (try clear p64); (try clear c68); (try clear c68b0); (try clear c68b1); (try clear c69); (try clear c71); (try clear c73); (try clear c74); (try clear c74b0); (try clear c74b1); (try clear c75); (try clear c75b0); (try clear c75b1); (try clear c77); (try clear c77b0); (try clear c86); (try clear c97); (try clear c101); (try clear c101b0); (try clear c101b1); (try clear c102); (try clear c104); (try clear hcz103_0); (try clear hcz103_1); (try clear hcz103_2); (try clear hcz103_3); (try clear hcz105_0); (try clear hcz105_1); (try clear hcz105_2); (try clear hcz105_3); (try clear hcz14_0); (try clear hcz14_1); (try clear hcz14_2); (try clear hcz14_3); (try clear hcz20_0); (try clear hcz20_1); (try clear hcz20_2); (try clear hcz20_3); (try clear hcz22_0); (try clear hcz22_1); (try clear hcz22_2); (try clear hcz22_3); (try clear hcz24_0); (try clear hcz24_1); (try clear hcz24_2); (try clear hcz24_3); (try clear hcz29_0); (try clear hcz29_1); (try clear hcz29_2); (try clear hcz29_3); (try clear hcz30_0); (try clear hcz30_1); (try clear hcz30_2); (try clear hcz30_3); (try clear hcz34_0); (try clear hcz34_1); (try clear hcz34_2); (try clear hcz34_3); (try clear hcz36_0); (try clear hcz36_1); (try clear hcz36_2); (try clear hcz36_3); (try clear hcz46_0); (try clear hcz46_1); (try clear hcz46_2); (try clear hcz46_3); (try clear hcz47_0); (try clear hcz47_1); (try clear hcz47_2); (try clear hcz47_3); (try clear hcz58_0); (try clear hcz58_1); (try clear hcz58_2); (try clear hcz58_3); (try clear hcz59_0); (try clear hcz59_1); (try clear hcz59_2); (try clear hcz59_3); (try clear hcz62_0); (try clear hcz62_1); (try clear hcz62_2); (try clear hcz62_3); (try clear hcz63_0); (try clear hcz63_1); (try clear hcz63_2); (try clear hcz63_3); (try clear hcz65_0); (try clear hcz65_1); (try clear hcz65_2); (try clear hcz65_3); (try clear hcz66_0); (try clear hcz66_1); (try clear hcz66_2); (try clear hcz66_3); (try clear hcz70_0); (try clear hcz70_1); (try clear hcz70_2); (try clear hcz70_3); (try clear hcz72_0); (try clear hcz72_1); (try clear hcz72_2); (try clear hcz72_3); (try clear hcz87_0); (try clear hcz87_1); (try clear hcz87_2); (try clear hcz87_3); (try clear hcz88_0); (try clear hcz88_1); (try clear hcz88_2); (try clear hcz88_3); (try clear hcz8_0); (try clear hcz8_1); (try clear hcz8_2); (try clear hcz8_3); (try clear hcz98_0); (try clear hcz98_1); (try clear hcz98_2); (try clear hcz98_3); (try clear hcz99_0); (try clear hcz99_1); (try clear hcz99_2); (try clear hcz99_3); (try clear hcz9_0); (try clear hcz9_1); (try clear hcz9_2); (try clear hcz9_3); (try clear hfz103_0); (try clear hfz103_1); (try clear hfz103_2); (try clear hfz103_3); (try clear hfz105_0); (try clear hfz105_1); (try clear hfz105_2); (try clear hfz105_3); (try clear hfz14_0); (try clear hfz14_1); (try clear hfz14_2); (try clear hfz14_3); (try clear hfz20_0); (try clear hfz20_1); (try clear hfz20_2); (try clear hfz20_3); (try clear hfz22_0); (try clear hfz22_1); (try clear hfz22_2); (try clear hfz22_3); (try clear hfz24_0); (try clear hfz24_1); (try clear hfz24_2); (try clear hfz24_3); (try clear hfz29_0); (try clear hfz29_1); (try clear hfz29_2); (try clear hfz29_3); (try clear hfz30_0); (try clear hfz30_1); (try clear hfz30_2); (try clear hfz30_3); (try clear hfz34_0); (try clear hfz34_1); (try clear hfz34_2); (try clear hfz34_3); (try clear hfz36_0); (try clear hfz36_1); (try clear hfz36_2); (try clear hfz36_3); (try clear hfz46_0); (try clear hfz46_1); (try clear hfz46_2); (try clear hfz46_3); (try clear hfz47_0); (try clear hfz47_1); (try clear hfz47_2); (try clear hfz47_3); (try clear hfz58_0); (try clear hfz58_1); (try clear hfz58_2); (try clear hfz58_3); (try clear hfz59_0); (try clear hfz59_1); (try clear hfz59_2); (try clear hfz59_3); (try clear hfz62_0); (try clear hfz62_1); (try clear hfz62_2); (try clear hfz62_3); (try clear hfz63_0); (try clear hfz63_1); (try clear hfz63_2); (try clear hfz63_3); (try clear hfz65_0); (try clear hfz65_1); (try clear hfz65_2); (try clear hfz65_3); (try clear hfz66_0); (try clear hfz66_1); (try clear hfz66_2); (try clear hfz66_3); (try clear hfz70_0); (try clear hfz70_1); (try clear hfz70_2); (try clear hfz70_3); (try clear hfz72_0); (try clear hfz72_1); (try clear hfz72_2); (try clear hfz72_3); (try clear hfz87_0); (try clear hfz87_1); (try clear hfz87_2); (try clear hfz87_3); (try clear hfz88_0); (try clear hfz88_1); (try clear hfz88_2); (try clear hfz88_3); (try clear hfz8_0); (try clear hfz8_1); (try clear hfz8_2); (try clear hfz8_3); (try clear hfz98_0); (try clear hfz98_1); (try clear hfz98_2); (try clear hfz98_3); (try clear hfz99_0); (try clear hfz99_1); (try clear hfz99_2); (try clear hfz99_3); (try clear hfz9_0); (try clear hfz9_1); (try clear hfz9_2); (try clear hfz9_3); (try clear p1); (try clear p18); (try clear p2); (try clear p27); (try clear p3); (try clear p39); (try clear p6); (try clear p64); (try clear q1); (try clear q18); (try clear q2); (try clear q27); (try clear q3); (try clear q39)
             obtain ⟨kq, x123_99, rfl, HA, HJ99, BK509, BK510, HB⟩ := hcut
             cases kq with
             | zero => exact absurd HA.out (by simp [vellumref02_back.j6])
             | succ kj99 =>
              have H := HA.out
              clear HA
              simp only [vellumref02_back.j6] at H
              by_cases c106 : x123_99 = true
              ·subst c106
               have H1 : (vellumref02_back.l0 kj99 a0 ([] : List Int) 1 (wrap64 ((wrap64 (bt a0 0)) - 1)) 0 0 (⟨#[]⟩ : ByteArray)) = some (r1, r2, r3, r4, r5) := by rw [if_pos rfl] at H; exact H
               clear H
               have H := H1
               clear H1
               have H' := Aside0.mk H
               clear H
               go_wp2
               go_loopg [9, 10] kj99 (fun kq v9 v10 w' => ∃ (x9_5 : List Int) (x10_5 : Int) (x510000_5 : Int) (x510001_5 : Int) (x510002_5 : Nat) (x510003_5 : ByteArray) (x511003_5 : ByteArray), v10 = .int .i64 x10_5 ∧ Aside0 (vellumref02_back.l0 kq a0 x9_5 x10_5 (wrap64 ((wrap64 (bt a0 0)) - 1)) 0 0 x511003_5 = some (r1, r2, r3, r4, r5)) ∧ Aside0 (kq ≤ kj99) ∧ Aside0 (Kd.R (Kd.int .u8) 5 w' w.heap.size (fun _ => True) v9 x9_5) ∧ Aside0 (w'.heap[gb509]? = some (.cells #[.int .i64 x510000_5, .int .i64 x510001_5, .float .f64 x510002_5, .string x510003_5] 50 (0, 0))) ∧ Aside0 (w'.heap[gb510]? = some (.cells #[.int .i64 (wrap64 ((wrap64 (bt a0 0)) - 1)), .int .i64 0, .float .f64 0, .string x511003_5] 50 (0, 0))) ∧ Aside0 (Below w.heap.size w w'))
               case atStart => exact ⟨(([] : List Int)), (1), (0), (0), (0), ((⟨#[]⟩ : ByteArray)), ((⟨#[]⟩ : ByteArray)), (by first | rfl | (simp; done) | (simp [*]; done) | (simp [bool_ne_nil]; done) | (simp; exact bool_ne_nil _)), H', ⟨Nat.le_refl _⟩, ⟨by first | exact Kd.R_nil _ _ _ _ _ | exact Kd.N_nil _ _ _ _ _ | exact Kd.V_nil _ _ _ _ _ | exact Kd.Q_nil _ _ _ _ _ | exact Kd.S_nil _ _ _ _ _⟩, ⟨by (with_reducible repeat (first | refine blk_drewN ?_ _ | refine blk_drew ?_ | refine blk_alloc ?_ _)); exact BK509.out⟩, ⟨by (with_reducible repeat (first | refine blk_drewN ?_ _ | refine blk_drew ?_ | refine blk_alloc ?_ _)); exact BK510.out⟩, ⟨by repeat (first | (with_reducible first | exact HB.out | apply below_alloc | apply pw_below_drewN | apply below_drew1 | refine below_set ?_ GE509.out | refine below_set ?_ GE510.out) | exact HB.out)⟩⟩
               case round =>
                clear H'
                (try clear c1); (try clear p1); (try clear q1); (try clear hx1); (try clear qi1); (try clear c2); (try clear c2b0); (try clear c2b1); (try clear p2); (try clear q2); (try clear hx2); (try clear qi2); (try clear c3); (try clear p3); (try clear q3); (try clear hx3); (try clear qi3); (try clear c4); (try clear c4b0); (try clear c4b1); (try clear c5); (try clear c6); (try clear p6); (try clear c7); (try clear c8); (try clear c9); (try clear c10); (try clear c11); (try clear c13); (try clear c15); (try clear c15b0); (try clear c15b1); (try clear c16); (try clear c16b0); (try clear c16b1); (try clear c17); (try clear c17b0); (try clear c17b1); (try clear p18); (try clear q18); (try clear hx18); (try clear qi18); (try clear c19); (try clear c21); (try clear c23); (try clear c25); (try clear c26); (try clear c26b0); (try clear c26b1); (try clear p27); (try clear q27); (try clear hx27); (try clear qi27); (try clear c28); (try clear c32); (try clear c32b0); (try clear c32b1); (try clear c33); (try clear c35); (try clear c37); (try clear c38); (try clear c38b0); (try clear c38b1); (try clear p39); (try clear q39); (try clear hx39); (try clear qi39); (try clear c41); (try clear c41b0); (try clear c43); (try clear c43b0); (try clear c44); (try clear c45); (try clear c48); (try clear c48b0); (try clear c48b1); (try clear c49); (try clear c49b0); (try clear c49b1); (try clear c52); (try clear c52b0); (try clear c54); (try clear c54b0); (try clear c54b1); (try clear c56); (try clear c56b0); (try clear c57); (try clear c60); (try clear c60b0); (try clear c61); (try clear c64); (try clear p64); (try clear c68); (try clear c68b0); (try clear c68b1); (try clear c69); (try clear c71); (try clear c73); (try clear c74); (try clear c74b0); (try clear c74b1); (try clear c75); (try clear c75b0); (try clear c75b1); (try clear c77); (try clear c77b0); (try clear c86); (try clear c97); (try clear c101); (try clear c101b0); (try clear c101b1); (try clear c102); (try clear c104); (try clear c106); (try clear hcz103_0); (try clear hcz103_1); (try clear hcz103_2); (try clear hcz103_3); (try clear hcz105_0); (try clear hcz105_1); (try clear hcz105_2); (try clear hcz105_3); (try clear hcz14_0); (try clear hcz14_1); (try clear hcz14_2); (try clear hcz14_3); (try clear hcz20_0); (try clear hcz20_1); (try clear hcz20_2); (try clear hcz20_3); (try clear hcz22_0); (try clear hcz22_1); (try clear hcz22_2); (try clear hcz22_3); (try clear hcz24_0); (try clear hcz24_1); (try clear hcz24_2); (try clear hcz24_3); (try clear hcz29_0); (try clear hcz29_1); (try clear hcz29_2); (try clear hcz29_3); (try clear hcz30_0); (try clear hcz30_1); (try clear hcz30_2); (try clear hcz30_3); (try clear hcz34_0); (try clear hcz34_1); (try clear hcz34_2); (try clear hcz34_3); (try clear hcz36_0); (try clear hcz36_1); (try clear hcz36_2); (try clear hcz36_3); (try clear hcz46_0); (try clear hcz46_1); (try clear hcz46_2); (try clear hcz46_3); (try clear hcz47_0); (try clear hcz47_1); (try clear hcz47_2); (try clear hcz47_3); (try clear hcz58_0); (try clear hcz58_1); (try clear hcz58_2); (try clear hcz58_3); (try clear hcz59_0); (try clear hcz59_1); (try clear hcz59_2); (try clear hcz59_3); (try clear hcz62_0); (try clear hcz62_1); (try clear hcz62_2); (try clear hcz62_3); (try clear hcz63_0); (try clear hcz63_1); (try clear hcz63_2); (try clear hcz63_3); (try clear hcz65_0); (try clear hcz65_1); (try clear hcz65_2); (try clear hcz65_3); (try clear hcz66_0); (try clear hcz66_1); (try clear hcz66_2); (try clear hcz66_3); (try clear hcz70_0); (try clear hcz70_1); (try clear hcz70_2); (try clear hcz70_3); (try clear hcz72_0); (try clear hcz72_1); (try clear hcz72_2); (try clear hcz72_3); (try clear hcz87_0); (try clear hcz87_1); (try clear hcz87_2); (try clear hcz87_3); (try clear hcz88_0); (try clear hcz88_1); (try clear hcz88_2); (try clear hcz88_3); (try clear hcz8_0); (try clear hcz8_1); (try clear hcz8_2); (try clear hcz8_3); (try clear hcz98_0); (try clear hcz98_1); (try clear hcz98_2); (try clear hcz98_3); (try clear hcz99_0); (try clear hcz99_1); (try clear hcz99_2); (try clear hcz99_3); (try clear hcz9_0); (try clear hcz9_1); (try clear hcz9_2); (try clear hcz9_3); (try clear hfz103_0); (try clear hfz103_1); (try clear hfz103_2); (try clear hfz103_3); (try clear hfz105_0); (try clear hfz105_1); (try clear hfz105_2); (try clear hfz105_3); (try clear hfz14_0); (try clear hfz14_1); (try clear hfz14_2); (try clear hfz14_3); (try clear hfz20_0); (try clear hfz20_1); (try clear hfz20_2); (try clear hfz20_3); (try clear hfz22_0); (try clear hfz22_1); (try clear hfz22_2); (try clear hfz22_3); (try clear hfz24_0); (try clear hfz24_1); (try clear hfz24_2); (try clear hfz24_3); (try clear hfz29_0); (try clear hfz29_1); (try clear hfz29_2); (try clear hfz29_3); (try clear hfz30_0); (try clear hfz30_1); (try clear hfz30_2); (try clear hfz30_3); (try clear hfz34_0); (try clear hfz34_1); (try clear hfz34_2); (try clear hfz34_3); (try clear hfz36_0); (try clear hfz36_1); (try clear hfz36_2); (try clear hfz36_3); (try clear hfz46_0); (try clear hfz46_1); (try clear hfz46_2); (try clear hfz46_3); (try clear hfz47_0); (try clear hfz47_1); (try clear hfz47_2); (try clear hfz47_3); (try clear hfz58_0); (try clear hfz58_1); (try clear hfz58_2); (try clear hfz58_3); (try clear hfz59_0); (try clear hfz59_1); (try clear hfz59_2); (try clear hfz59_3); (try clear hfz62_0); (try clear hfz62_1); (try clear hfz62_2); (try clear hfz62_3); (try clear hfz63_0); (try clear hfz63_1); (try clear hfz63_2); (try clear hfz63_3); (try clear hfz65_0); (try clear hfz65_1); (try clear hfz65_2); (try clear hfz65_3); (try clear hfz66_0); (try clear hfz66_1); (try clear hfz66_2); (try clear hfz66_3); (try clear hfz70_0); (try clear hfz70_1); (try clear hfz70_2); (try clear hfz70_3); (try clear hfz72_0); (try clear hfz72_1); (try clear hfz72_2); (try clear hfz72_3); (try clear hfz87_0); (try clear hfz87_1); (try clear hfz87_2); (try clear hfz87_3); (try clear hfz88_0); (try clear hfz88_1); (try clear hfz88_2); (try clear hfz88_3); (try clear hfz8_0); (try clear hfz8_1); (try clear hfz8_2); (try clear hfz8_3); (try clear hfz98_0); (try clear hfz98_1); (try clear hfz98_2); (try clear hfz98_3); (try clear hfz99_0); (try clear hfz99_1); (try clear hfz99_2); (try clear hfz99_3); (try clear hfz9_0); (try clear hfz9_1); (try clear hfz9_2); (try clear hfz9_3); (try clear p1); (try clear p18); (try clear p2); (try clear p27); (try clear p3); (try clear p39); (try clear p6); (try clear p64); (try clear q1); (try clear q18); (try clear q2); (try clear q27); (try clear q3); (try clear q39)
                obtain ⟨x9_5, x10_5, x510000_5, x510001_5, x510002_5, x510003_5, x511003_5, rfl, HA, HK5, HO_9, BK509, BK510, HB⟩ := hrel
                cases gk with
                | zero => exact absurd HA.out (by simp [vellumref02_back.l0])
                | succ k5 =>
                 have H := HA.out
                 clear HA
                 simp only [vellumref02_back.l0] at H
                 by_cases c107 : x10_5 < (a0.size : Int)
                 ·rw [if_pos c107] at H
                  have c107b0 : decide (x10_5 < (a0.size : Int)) = true := decide_eq_true c107
                  clear c107
                  by_cases c108 : 0 ≤ x10_5
                  ·rw [if_pos c108] at H
                   have c108b0 : decide (0 ≤ x10_5) = true := decide_eq_true c108
                   clear c108
                   by_cases c110 : (bt a0 x10_5) = 0
                   ·rw [if_pos c110] at H
                    have c110b0 : ((bt a0 x10_5) == 0) = true := beq_iff_eq.mpr c110
                    have c110b1 : ((bt a0 x10_5) != 0) = false := bne_eq_false_iff_eq.mpr c110
                    clear c110
                    by_cases c111 : (wrap64 (x10_5 + 1)) = (a0.size : Int)
                    ·rw [if_pos c111] at H
                     have c111b0 : ((wrap64 (x10_5 + 1)) == (a0.size : Int)) = true := beq_iff_eq.mpr c111
                     have c111b1 : ((wrap64 (x10_5 + 1)) != (a0.size : Int)) = false := bne_eq_false_iff_eq.mpr c111
                     clear c111
                     simp only [Option.some.injEq, Prod.mk.injEq] at H
                     obtain ⟨rfl, rfl, rfl, rfl, rfl⟩ := H
                     have p109 : 0 ≤ (x10_5 : Int) := of_decide_eq_true (by first | (with_reducible assumption) | assumption)
                     have q109 : x10_5 < (a0.size : Int) := of_decide_eq_true (by first | (with_reducible assumption) | assumption)
                     have hx109 := bt_at a0 x10_5
                     replace p109 := eq_true p109
                     replace q109 := eq_true q109
                     have hcv112 := own_string (P := Tryd.prog) Tryd.underlying80 Tryd.underlying5 Tryd.underlying9 (Kd.own_of_R HO_9.out)
                     have hnb113 := NB510_509.out
                     have hnc113 := NB509_510.out
                     have hcz114_0 : wr.cell? ⟨gb510, 0, none⟩ = some (.int .i64 (wrap64 ((wrap64 (bt a0 0)) - 1))) := (blk_cell BK510.out 0).trans rfl
                     have hcz114_1 : wr.cell? ⟨gb510, 1, none⟩ = some (.int .i64 0) := (blk_cell BK510.out 1).trans rfl
                     have hcz114_2 : wr.cell? ⟨gb510, 2, none⟩ = some (.float .f64 0) := (blk_cell BK510.out 2).trans rfl
                     have hcz114_3 : wr.cell? ⟨gb510, 3, none⟩ = some (.string x511003_5) := (blk_cell BK510.out 3).trans rfl
                     have hfz114_0 := blk_frozen BK510.out 0
                     have hfz114_1 := blk_frozen BK510.out 1
                     have hfz114_2 := blk_frozen BK510.out 2
                     have hfz114_3 := blk_frozen BK510.out 3
                     have hcz115_0 : wr.cell? ⟨gb509, 0, none⟩ = some (.int .i64 x510000_5) := (blk_cell BK509.out 0).trans rfl
                     have hcz115_1 : wr.cell? ⟨gb509, 1, none⟩ = some (.int .i64 x510001_5) := (blk_cell BK509.out 1).trans rfl
                     have hcz115_2 : wr.cell? ⟨gb509, 2, none⟩ = some (.float .f64 x510002_5) := (blk_cell BK509.out 2).trans rfl
                     have hcz115_3 : wr.cell? ⟨gb509, 3, none⟩ = some (.string x510003_5) := (blk_cell BK509.out 3).trans rfl
                     have hfz115_0 := blk_frozen BK509.out 0
                     have hfz115_1 := blk_frozen BK509.out 1
                     have hfz115_2 := blk_frozen BK509.out 2
                     have hfz115_3 := blk_frozen BK509.out 3
                     go_wp2
                     refine bodyPost_ret (results_ct rfl _ _ gb509 50 #[.int .i64 (wrap64 ((wrap64 (bt a0 0)) - 1)), .int .i64 0, .float .f64 0, .string (strOfNums x9_5)] (0, 0) _ rfl (by (with_reducible repeat (first | refine blk_drewN ?_ _ | refine blk_drew ?_ | refine blk_alloc ?_ _)); refine blk_put (cs := #[.int .i64 (wrap64 ((wrap64 (bt a0 0)) - 1)), .int .i64 0, .float .f64 0, .string x510003_5]) ?_ 3 _ rfl; (with_reducible repeat (first | refine blk_drewN ?_ _ | refine blk_drew ?_ | refine blk_alloc ?_ _)); refine blk_put (cs := #[.int .i64 (wrap64 ((wrap64 (bt a0 0)) - 1)), .int .i64 0, .float .f64 x510002_5, .string x510003_5]) ?_ 2 _ rfl; (with_reducible repeat (first | refine blk_drewN ?_ _ | refine blk_drew ?_ | refine blk_alloc ?_ _)); refine blk_put (cs := #[.int .i64 (wrap64 ((wrap64 (bt a0 0)) - 1)), .int .i64 x510001_5, .float .f64 x510002_5, .string x510003_5]) ?_ 1 _ rfl; (with_reducible repeat (first | refine blk_drewN ?_ _ | refine blk_drew ?_ | refine blk_alloc ?_ _)); refine blk_put (cs := #[.int .i64 x510000_5, .int .i64 x510001_5, .float .f64 x510002_5, .string x510003_5]) ?_ 0 _ rfl; (with_reducible repeat (first | refine blk_drewN ?_ _ | refine blk_drew ?_ | refine blk_alloc ?_ _)); refine blk_far ?_ NB509_510.out _; (with_reducible repeat (first | refine blk_drewN ?_ _ | refine blk_drew ?_ | refine blk_alloc ?_ _)); exact BK509.out) Tryd.underlying50 rfl (by kernel_rfl)) rfl ?_
                     exact ⟨by first | rfl | (simp [errW_none, errW_some] <;> rfl) | (simp [*, errW_none, errW_some] <;> rfl), by repeat (first | (with_reducible first | exact HB.out | apply below_alloc | apply pw_below_drewN | apply below_drew1 | refine below_set ?_ GE509.out | refine below_set ?_ GE510.out) | exact HB.out)⟩
                    ·rw [if_neg c111] at H
                     have c111b0 : ((wrap64 (x10_5 + 1)) == (a0.size : Int)) = false := beq_eq_false_iff_ne.mpr c111
                     have c111b1 : ((wrap64 (x10_5 + 1)) != (a0.size : Int)) = true := bne_iff_ne.mpr c111
                     obtain ⟨ji116, hji116⟩ : ∃ j_ : Int, (wrap64 (x10_5 + 1)) = j_ := ⟨_, rfl⟩
                     replace H : (if 0 ≤ (ji116) then (if (ji116) < (a0.size : Int) then (if (bt a0 (ji116)) = 255 then (if x9_5.length < 140737488355328 then (vellumref02_back.l0 k5 a0 (x9_5 ++ [0]) (wrap64 ((ji116) + 1)) (wrap64 ((wrap64 (bt a0 0)) - 1)) 0 0 x511003_5) else (none)) else (some ((wrap64 ((wrap64 (bt a0 0)) - 1)), 0, 0, strOfNums x9_5, ji116))) else (none)) else (none)) = some (r1, r2, r3, r4, r5) := by first | (rw [hji116] at H; exact H) | (simp only [hji116] at H ⊢; exact H)
                     (try rw [hji116] at c111b0)
                     (try rw [hji116] at c111b1)
                     have hji116w : (IntKind.i64.wrap (x10_5 + 1)) = ji116 := (i64_w _).trans hji116
                     by_cases c117 : 0 ≤ (ji116)
                     ·rw [if_pos c117] at H
                      have c117b0 : decide (0 ≤ (ji116)) = true := decide_eq_true c117
                      clear c117
                      by_cases c118 : (ji116) < (a0.size : Int)
                      ·rw [if_pos c118] at H
                       have c118b0 : decide ((ji116) < (a0.size : Int)) = true := decide_eq_true c118
                       clear c118
                       by_cases c120 : (bt a0 (ji116)) = 255
                       ·rw [if_pos c120] at H
                        have c120b0 : ((bt a0 (ji116)) == 255) = true := beq_iff_eq.mpr c120
                        have c120b1 : ((bt a0 (ji116)) != 255) = false := bne_eq_false_iff_eq.mpr c120
                        clear c120
                        by_cases c121 : x9_5.length < 140737488355328
                        ·rw [if_pos c121] at H
                         have LMc121 := Aside0.mk c121
                         clear c121
                         obtain ⟨y513, hy513⟩ : ∃ y_ : List Int, y_ = (x9_5 ++ [0]) := ⟨_, rfl⟩
                         replace H : (vellumref02_back.l0 k5 a0 y513 (wrap64 ((ji116) + 1)) (wrap64 ((wrap64 (bt a0 0)) - 1)) 0 0 x511003_5) = some (r1, r2, r3, r4, r5) := by first | (rw [hy513]; with_reducible exact H) | (have H2_ := (Option.bind_some _ _).symm.trans H; rw [hy513]; with_reducible exact H2_) | (have H2_ := (Option.bind_some _ _).symm.trans H; with_reducible exact H2_) | with_reducible exact H | (rw [hy513]; exact H) | exact H
                         have Ny513 := Aside0.mk hy513
                         clear hy513
                         have H' := Aside0.mk H
                         clear H
                         have p109 : 0 ≤ (x10_5 : Int) := of_decide_eq_true (by first | (with_reducible assumption) | assumption)
                         have q109 : x10_5 < (a0.size : Int) := of_decide_eq_true (by first | (with_reducible assumption) | assumption)
                         have hx109 := bt_at a0 x10_5
                         replace p109 := eq_true p109
                         replace q109 := eq_true q109
                         have p119 : 0 ≤ ((ji116) : Int) := of_decide_eq_true (by first | (with_reducible assumption) | assumption)
                         have q119 : (ji116) < (a0.size : Int) := of_decide_eq_true (by first | (with_reducible assumption) | assumption)
                         have hx119 := bt_at a0 (ji116)
                         replace p119 := eq_true p119
                         replace q119 := eq_true q119
                         go_wp2_with (first | ((with_reducible refine gate_builtin (b := .append) (xs := #[.tmp 166, .tmp 167]) rfl ?_); (try (refine gate_guard (by rfl) ?_; dsimp only)); at_builtin; refine Kd.R_append (Kd.int .u8) (w0 := w) w.heap.size rfl (.tmp 166) (.tmp 167) 80 5 (.int .u8 0) 1 rfl Tryd.underlying80 info5 rfl (by decide) (by omega) u9 x9_5 0 [.int .u8 0] (fun _ => True) (fun _ => False) rfl rfl ?aP (fun _ hk => hk.elim) ?aF ?aO ?aB ?aS ?aL ?_; (case aP => exact rfl); (case aB => exact (by repeat (first | (with_reducible first | exact HB.out | apply below_alloc | apply pw_below_drewN | apply below_drew1 | refine below_set ?_ GE509.out | refine below_set ?_ GE510.out) | exact HB.out))); (case aF => exact (fun _ _ => trivial)); (case aO => exact (by (with_reducible repeat (first | apply Kd.R_alloc | apply Kd.R_drewN | apply Kd.R_drew)); exact HO_9.out)); (case aS => exact (below_size (by repeat (first | (with_reducible first | exact HB.out | apply below_alloc | apply pw_below_drewN | apply below_drew1 | refine below_set ?_ GE509.out | refine below_set ?_ GE510.out) | exact HB.out)))); (case aL => have := LMc121.out; omega); intro v514 w122 ho hb hg hat; rw [← Ny513.out] at ho; have n0_ := Aside0.mk (blk_grown (g := gb509) (o := .cells #[.int .i64 x510000_5, .int .i64 x510001_5, .float .f64 x510002_5, .string x510003_5] 50 (0, 0)) (by (with_reducible repeat (first | refine blk_drewN ?_ _ | refine blk_drew ?_ | refine blk_alloc ?_ _)); exact BK509.out) hg (Kd.R_ne HO_9.out BK509.out (by decide))); have n1_ := Aside0.mk (blk_grown (g := gb510) (o := .cells #[.int .i64 (wrap64 ((wrap64 (bt a0 0)) - 1)), .int .i64 0, .float .f64 0, .string x511003_5] 50 (0, 0)) (by (with_reducible repeat (first | refine blk_drewN ?_ _ | refine blk_drew ?_ | refine blk_alloc ?_ _)); exact BK510.out) hg (Kd.R_ne HO_9.out BK510.out (by decide))); have n2_ := Aside0.mk (hb); have n3_ := Aside0.mk (ho); clear BK509; clear BK510; clear HB; clear HO_9; have BK509 := n0_; have BK510 := n1_; have HB := n2_; have HO515 := n3_; clear n0_ n1_ n2_ n3_; clear ho hb hg hat))
                         go_roundg k5
                         case measure => have := HJ9.out; have := HJ30.out; have := HJ66.out; have := HJ99.out; have := HK5.out; omega
                         case rel => exact ⟨(y513), (wrap64 ((ji116) + 1)), (x510000_5), (x510001_5), (x510002_5), (x510003_5), (x511003_5), (by first | rfl | (simp; done) | (simp only [← hji116] <;> (first | rfl | simp)) | (simp [*]; done)), H', ⟨by have := HJ9.out; have := HJ30.out; have := HJ66.out; have := HJ99.out; have := HK5.out; omega⟩, ⟨by (with_reducible repeat (first | apply Kd.R_alloc | apply Kd.R_drewN | apply Kd.R_drew)); exact HO515.out⟩, ⟨by (with_reducible repeat (first | refine blk_drewN ?_ _ | refine blk_drew ?_ | refine blk_alloc ?_ _)); exact BK509.out⟩, ⟨by (with_reducible repeat (first | refine blk_drewN ?_ _ | refine blk_drew ?_ | refine blk_alloc ?_ _)); exact BK510.out⟩, ⟨by repeat (first | (with_reducible first | exact HB.out | apply below_alloc | apply pw_below_drewN | apply below_drew1 | refine below_set ?_ GE509.out | refine below_set ?_ GE510.out) | exact HB.out)⟩⟩
                        ·rw [if_neg c121] at H
                         exact absurd H (by simp)
                       ·rw [if_neg c120] at H
                        have c120b0 : ((bt a0 (ji116)) == 255) = false := beq_eq_false_iff_ne.mpr c120
                        have c120b1 : ((bt a0 (ji116)) != 255) = true := bne_iff_ne.mpr c120
                        simp only [Option.some.injEq, Prod.mk.injEq] at H
                        obtain ⟨rfl, rfl, rfl, rfl, rfl⟩ := H
                        have p109 : 0 ≤ (x10_5 : Int) := of_decide_eq_true (by first | (with_reducible assumption) | assumption)
                        have q109 : x10_5 < (a0.size : Int) := of_decide_eq_true (by first | (with_reducible assumption) | assumption)
                        have hx109 := bt_at a0 x10_5
                        replace p109 := eq_true p109
                        replace q109 := eq_true q109
                        have p119 : 0 ≤ ((ji116) : Int) := of_decide_eq_true (by first | (with_reducible assumption) | assumption)
                        have q119 : (ji116) < (a0.size : Int) := of_decide_eq_true (by first | (with_reducible assumption) | assumption)
                        have hx119 := bt_at a0 (ji116)
                        replace p119 := eq_true p119
                        replace q119 := eq_true q119
                        have hcv123 := own_string (P := Tryd.prog) Tryd.underlying80 Tryd.underlying5 Tryd.underlying9 (Kd.own_of_R HO_9.out)
                        have hnb124 := NB510_509.out
                        have hnc124 := NB509_510.out
                        have hcz125_0 : wr.cell? ⟨gb510, 0, none⟩ = some (.int .i64 (wrap64 ((wrap64 (bt a0 0)) - 1))) := (blk_cell BK510.out 0).trans rfl
                        have hcz125_1 : wr.cell? ⟨gb510, 1, none⟩ = some (.int .i64 0) := (blk_cell BK510.out 1).trans rfl
                        have hcz125_2 : wr.cell? ⟨gb510, 2, none⟩ = some (.float .f64 0) := (blk_cell BK510.out 2).trans rfl
                        have hcz125_3 : wr.cell? ⟨gb510, 3, none⟩ = some (.string x511003_5) := (blk_cell BK510.out 3).trans rfl
                        have hfz125_0 := blk_frozen BK510.out 0
                        have hfz125_1 := blk_frozen BK510.out 1
                        have hfz125_2 := blk_frozen BK510.out 2
                        have hfz125_3 := blk_frozen BK510.out 3
                        have hcz126_0 : wr.cell? ⟨gb509, 0, none⟩ = some (.int .i64 x510000_5) := (blk_cell BK509.out 0).trans rfl
                        have hcz126_1 : wr.cell? ⟨gb509, 1, none⟩ = some (.int .i64 x510001_5) := (blk_cell BK509.out 1).trans rfl
                        have hcz126_2 : wr.cell? ⟨gb509, 2, none⟩ = some (.float .f64 x510002_5) := (blk_cell BK509.out 2).trans rfl
                        have hcz126_3 : wr.cell? ⟨gb509, 3, none⟩ = some (.string x510003_5) := (blk_cell BK509.out 3).trans rfl
                        have hfz126_0 := blk_frozen BK509.out 0
                        have hfz126_1 := blk_frozen BK509.out 1
                        have hfz126_2 := blk_frozen BK509.out 2
                        have hfz126_3 := blk_frozen BK509.out 3
                        go_wp2
                        refine bodyPost_ret (results_ct rfl _ _ gb509 50 #[.int .i64 (wrap64 ((wrap64 (bt a0 0)) - 1)), .int .i64 0, .float .f64 0, .string (strOfNums x9_5)] (0, 0) _ rfl (by (with_reducible repeat (first | refine blk_drewN ?_ _ | refine blk_drew ?_ | refine blk_alloc ?_ _)); refine blk_put (cs := #[.int .i64 (wrap64 ((wrap64 (bt a0 0)) - 1)), .int .i64 0, .float .f64 0, .string x510003_5]) ?_ 3 _ rfl; (with_reducible repeat (first | refine blk_drewN ?_ _ | refine blk_drew ?_ | refine blk_alloc ?_ _)); refine blk_put (cs := #[.int .i64 (wrap64 ((wrap64 (bt a0 0)) - 1)), .int .i64 0, .float .f64 x510002_5, .string x510003_5]) ?_ 2 _ rfl; (with_reducible repeat (first | refine blk_drewN ?_ _ | refine blk_drew ?_ | refine blk_alloc ?_ _)); refine blk_put (cs := #[.int .i64 (wrap64 ((wrap64 (bt a0 0)) - 1)), .int .i64 x510001_5, .float .f64 x510002_5, .string x510003_5]) ?_ 1 _ rfl; (with_reducible repeat (first | refine blk_drewN ?_ _ | refine blk_drew ?_ | refine blk_alloc ?_ _)); refine blk_put (cs := #[.int .i64 x510000_5, .int .i64 x510001_5, .float .f64 x510002_5, .string x510003_5]) ?_ 0 _ rfl; (with_reducible repeat (first | refine blk_drewN ?_ _ | refine blk_drew ?_ | refine blk_alloc ?_ _)); refine blk_far ?_ NB509_510.out _; (with_reducible repeat (first | refine blk_drewN ?_ _ | refine blk_drew ?_ | refine blk_alloc ?_ _)); exact BK509.out) Tryd.underlying50 rfl (by kernel_rfl)) rfl ?_
                        exact ⟨by first | rfl | (simp [errW_none, errW_some] <;> rfl) | (simp only [← hji116]; first | rfl | (simp [errW_none, errW_some] <;> rfl)) | (simp [*, errW_none, errW_some] <;> rfl), by repeat (first | (with_reducible first | exact HB.out | apply below_alloc | apply pw_below_drewN | apply below_drew1 | refine below_set ?_ GE509.out | refine below_set ?_ GE510.out) | exact HB.out)⟩
                      ·rw [if_neg c118] at H
                       exact absurd H (by simp)
                     ·rw [if_neg c117] at H
                      exact absurd H (by simp)
                   ·rw [if_neg c110] at H
                    have c110b0 : ((bt a0 x10_5) == 0) = false := beq_eq_false_iff_ne.mpr c110
                    have c110b1 : ((bt a0 x10_5) != 0) = true := bne_iff_ne.mpr c110
                    by_cases c128 : x9_5.length < 140737488355328
                    ·rw [if_pos c128] at H
                     have LMc128 := Aside0.mk c128
                     clear c128
                     obtain ⟨y516, hy516⟩ : ∃ y_ : List Int, y_ = (x9_5 ++ [bt a0 x10_5]) := ⟨_, rfl⟩
                     replace H : (vellumref02_back.l0 k5 a0 y516 (wrap64 (x10_5 + 1)) (wrap64 ((wrap64 (bt a0 0)) - 1)) 0 0 x511003_5) = some (r1, r2, r3, r4, r5) := by first | (rw [hy516]; with_reducible exact H) | (have H2_ := (Option.bind_some _ _).symm.trans H; rw [hy516]; with_reducible exact H2_) | (have H2_ := (Option.bind_some _ _).symm.trans H; with_reducible exact H2_) | with_reducible exact H | (rw [hy516]; exact H) | exact H
                     have Ny516 := Aside0.mk hy516
                     clear hy516
                     have H' := Aside0.mk H
                     clear H
                     have p109 : 0 ≤ (x10_5 : Int) := of_decide_eq_true (by first | (with_reducible assumption) | assumption)
                     have q109 : x10_5 < (a0.size : Int) := of_decide_eq_true (by first | (with_reducible assumption) | assumption)
                     have hx109 := bt_at a0 x10_5
                     replace p109 := eq_true p109
                     replace q109 := eq_true q109
                     have p127 : 0 ≤ (x10_5 : Int) := of_decide_eq_true (by first | (with_reducible assumption) | assumption)
                     have q127 : x10_5 < (a0.size : Int) := of_decide_eq_true (by first | (with_reducible assumption) | assumption)
                     have hx127 := bt_at a0 x10_5
                     replace p127 := eq_true p127
                     replace q127 := eq_true q127
                     go_wp2_with (first | ((with_reducible refine gate_builtin (b := .append) (xs := #[.tmp 142, .tmp 146]) rfl ?_); (try (refine gate_guard (by rfl) ?_; dsimp only)); at_builtin; refine Kd.R_append (Kd.int .u8) (w0 := w) w.heap.size rfl (.tmp 142) (.tmp 146) 80 5 (.int .u8 0) 1 rfl Tryd.underlying80 info5 rfl (by decide) (by omega) u9 x9_5 (bt a0 x10_5) [.int .u8 (bt a0 x10_5)] (fun _ => True) (fun _ => False) rfl rfl ?aP (fun _ hk => hk.elim) ?aF ?aO ?aB ?aS ?aL ?_; (case aP => exact rfl); (case aB => exact (by repeat (first | (with_reducible first | exact HB.out | apply below_alloc | apply pw_below_drewN | apply below_drew1 | refine below_set ?_ GE509.out | refine below_set ?_ GE510.out) | exact HB.out))); (case aF => exact (fun _ _ => trivial)); (case aO => exact (by (with_reducible repeat (first | apply Kd.R_alloc | apply Kd.R_drewN | apply Kd.R_drew)); exact HO_9.out)); (case aS => exact (below_size (by repeat (first | (with_reducible first | exact HB.out | apply below_alloc | apply pw_below_drewN | apply below_drew1 | refine below_set ?_ GE509.out | refine below_set ?_ GE510.out) | exact HB.out)))); (case aL => have := LMc128.out; omega); intro v517 w129 ho hb hg hat; rw [← Ny516.out] at ho; have n0_ := Aside0.mk (blk_grown (g := gb509) (o := .cells #[.int .i64 x510000_5, .int .i64 x510001_5, .float .f64 x510002_5, .string x510003_5] 50 (0, 0)) (by (with_reducible repeat (first | refine blk_drewN ?_ _ | refine blk_drew ?_ | refine blk_alloc ?_ _)); exact BK509.out) hg (Kd.R_ne HO_9.out BK509.out (by decide))); have n1_ := Aside0.mk (blk_grown (g := gb510) (o := .cells #[.int .i64 (wrap64 ((wrap64 (bt a0 0)) - 1)), .int .i64 0, .float .f64 0, .string x511003_5] 50 (0, 0)) (by (with_reducible repeat (first | refine blk_drewN ?_ _ | refine blk_drew ?_ | refine blk_alloc ?_ _)); exact BK510.out) hg (Kd.R_ne HO_9.out BK510.out (by decide))); have n2_ := Aside0.mk (hb); have n3_ := Aside0.mk (ho); clear BK509; clear BK510; clear HB; clear HO_9; have BK509 := n0_; have BK510 := n1_; have HB := n2_; have HO518 := n3_; clear n0_ n1_ n2_ n3_; clear ho hb hg hat))
                     go_roundg k5
                     case measure => have := HJ9.out; have := HJ30.out; have := HJ66.out; have := HJ99.out; have := HK5.out; omega
                     case rel => exact ⟨(y516), (wrap64 (x10_5 + 1)), (x510000_5), (x510001_5), (x510002_5), (x510003_5), (x511003_5), (by first | rfl | (simp; done) | (simp [*]; done) | (simp [bool_ne_nil]; done) | (simp; exact bool_ne_nil _)), H', ⟨by have := HJ9.out; have := HJ30.out; have := HJ66.out; have := HJ99.out; have := HK5.out; omega⟩, ⟨by (with_reducible repeat (first | apply Kd.R_alloc | apply Kd.R_drewN | apply Kd.R_drew)); exact HO518.out⟩, ⟨by (with_reducible repeat (first | refine blk_drewN ?_ _ | refine blk_drew ?_ | refine blk_alloc ?_ _)); exact BK509.out⟩, ⟨by (with_reducible repeat (first | refine blk_drewN ?_ _ | refine blk_drew ?_ | refine blk_alloc ?_ _)); exact BK510.out⟩, ⟨by repeat (first | (with_reducible first | exact HB.out | apply below_alloc | apply pw_below_drewN | apply below_drew1 | refine below_set ?_ GE509.out | refine below_set ?_ GE510.out) | exact HB.out)⟩⟩
                    ·rw [if_neg c128] at H
                     exact absurd H (by simp)
                  ·rw [if_neg c108] at H
                   exact absurd H (by simp)
                 ·rw [if_neg c107] at H
                  have c107b0 : decide (x10_5 < (a0.size : Int)) = false := decide_eq_false c107
                  clear c107
                  simp only [Option.some.injEq, Prod.mk.injEq] at H
                  obtain ⟨rfl, rfl, rfl, rfl, rfl⟩ := H
                  have hnb130 := NB510_509.out
                  have hnc130 := NB509_510.out
                  have hcz131_0 : wr.cell? ⟨gb510, 0, none⟩ = some (.int .i64 (wrap64 ((wrap64 (bt a0 0)) - 1))) := (blk_cell BK510.out 0).trans rfl
                  have hcz131_1 : wr.cell? ⟨gb510, 1, none⟩ = some (.int .i64 0) := (blk_cell BK510.out 1).trans rfl
                  have hcz131_2 : wr.cell? ⟨gb510, 2, none⟩ = some (.float .f64 0) := (blk_cell BK510.out 2).trans rfl
                  have hcz131_3 : wr.cell? ⟨gb510, 3, none⟩ = some (.string x511003_5) := (blk_cell BK510.out 3).trans rfl
                  have hfz131_0 := blk_frozen BK510.out 0
                  have hfz131_1 := blk_frozen BK510.out 1
                  have hfz131_2 := blk_frozen BK510.out 2
                  have hfz131_3 := blk_frozen BK510.out 3
                  have hcz132_0 : wr.cell? ⟨gb509, 0, none⟩ = some (.int .i64 x510000_5) := (blk_cell BK509.out 0).trans rfl
                  have hcz132_1 : wr.cell? ⟨gb509, 1, none⟩ = some (.int .i64 x510001_5) := (blk_cell BK509.out 1).trans rfl
                  have hcz132_2 : wr.cell? ⟨gb509, 2, none⟩ = some (.float .f64 x510002_5) := (blk_cell BK509.out 2).trans rfl
                  have hcz132_3 : wr.cell? ⟨gb509, 3, none⟩ = some (.string x510003_5) := (blk_cell BK509.out 3).trans rfl
                  have hfz132_0 := blk_frozen BK509.out 0
                  have hfz132_1 := blk_frozen BK509.out 1
                  have hfz132_2 := blk_frozen BK509.out 2
                  have hfz132_3 := blk_frozen BK509.out 3
                  go_wp2
                  refine bodyPost_ret (results_ct rfl _ _ gb509 50 #[.int .i64 (wrap64 ((wrap64 (bt a0 0)) - 1)), .int .i64 0, .float .f64 0, .string x511003_5] (0, 0) _ rfl (by (with_reducible repeat (first | refine blk_drewN ?_ _ | refine blk_drew ?_ | refine blk_alloc ?_ _)); refine blk_put (cs := #[.int .i64 (wrap64 ((wrap64 (bt a0 0)) - 1)), .int .i64 0, .float .f64 0, .string x510003_5]) ?_ 3 _ rfl; (with_reducible repeat (first | refine blk_drewN ?_ _ | refine blk_drew ?_ | refine blk_alloc ?_ _)); refine blk_put (cs := #[.int .i64 (wrap64 ((wrap64 (bt a0 0)) - 1)), .int .i64 0, .float .f64 x510002_5, .string x510003_5]) ?_ 2 _ rfl; (with_reducible repeat (first | refine blk_drewN ?_ _ | refine blk_drew ?_ | refine blk_alloc ?_ _)); refine blk_put (cs := #[.int .i64 (wrap64 ((wrap64 (bt a0 0)) - 1)), .int .i64 x510001_5, .float .f64 x510002_5, .string x510003_5]) ?_ 1 _ rfl; (with_reducible repeat (first | refine blk_drewN ?_ _ | refine blk_drew ?_ | refine blk_alloc ?_ _)); refine blk_put (cs := #[.int .i64 x510000_5, .int .i64 x510001_5, .float .f64 x510002_5, .string x510003_5]) ?_ 0 _ rfl; (with_reducible repeat (first | refine blk_drewN ?_ _ | refine blk_drew ?_ | refine blk_alloc ?_ _)); exact BK509.out) Tryd.underlying50 rfl (by kernel_rfl)) rfl ?_
                  exact ⟨by first | rfl | (simp [errW_none, errW_some] <;> rfl) | (simp [*, errW_none, errW_some] <;> rfl), by repeat (first | (with_reducible first | exact HB.out | apply below_alloc | apply pw_below_drewN | apply below_drew1 | refine below_set ?_ GE509.out | refine below_set ?_ GE510.out) | exact HB.out)⟩
              ·replace c106 := Bool.eq_false_iff.mpr c106
               subst c106
               have H1 : (some ((wrap64 ((wrap64 (bt a0 0)) - 1)), 0, 0, (⟨#[]⟩ : ByteArray), 0)) = some (r1, r2, r3, r4, r5) := by rw [if_neg (show ¬ (false = true) by decide)] at H; exact H
               clear H
               have H := H1
               clear H1
               simp only [Option.some.injEq, Prod.mk.injEq] at H
               obtain ⟨rfl, rfl, rfl, rfl, rfl⟩ := H
               have hnb133 := NB510_509.out
               have hnc133 := NB509_510.out
               have hcz134_0 : wc.cell? ⟨gb510, 0, none⟩ = some (.int .i64 (wrap64 ((wrap64 (bt a0 0)) - 1))) := (blk_cell BK510.out 0).trans rfl
               have hcz134_1 : wc.cell? ⟨gb510, 1, none⟩ = some (.int .i64 0) := (blk_cell BK510.out 1).trans rfl
               have hcz134_2 : wc.cell? ⟨gb510, 2, none⟩ = some (.float .f64 0) := (blk_cell BK510.out 2).trans rfl
               have hcz134_3 : wc.cell? ⟨gb510, 3, none⟩ = some (.string (⟨#[]⟩ : ByteArray)) := (blk_cell BK510.out 3).trans rfl
               have hfz134_0 := blk_frozen BK510.out 0
               have hfz134_1 := blk_frozen BK510.out 1
               have hfz134_2 := blk_frozen BK510.out 2
               have hfz134_3 := blk_frozen BK510.out 3
               have hcz135_0 : wc.cell? ⟨gb509, 0, none⟩ = some (.int .i64 0) := (blk_cell BK509.out 0).trans rfl
               have hcz135_1 : wc.cell? ⟨gb509, 1, none⟩ = some (.int .i64 0) := (blk_cell BK509.out 1).trans rfl
               have hcz135_2 : wc.cell? ⟨gb509, 2, none⟩ = some (.float .f64 0) := (blk_cell BK509.out 2).trans rfl
               have hcz135_3 : wc.cell? ⟨gb509, 3, none⟩ = some (.string (⟨#[]⟩ : ByteArray)) := (blk_cell BK509.out 3).trans rfl
               have hfz135_0 := blk_frozen BK509.out 0
               have hfz135_1 := blk_frozen BK509.out 1
               have hfz135_2 := blk_frozen BK509.out 2
               have hfz135_3 := blk_frozen BK509.out 3
               go_wp2
               refine bodyPost_ret (results_ct rfl _ _ gb509 50 #[.int .i64 (wrap64 ((wrap64 (bt a0 0)) - 1)), .int .i64 0, .float .f64 0, .string (⟨#[]⟩ : ByteArray)] (0, 0) _ rfl (by (with_reducible repeat (first | refine blk_drewN ?_ _ | refine blk_drew ?_ | refine blk_alloc ?_ _)); refine blk_put (cs := #[.int .i64 (wrap64 ((wrap64 (bt a0 0)) - 1)), .int .i64 0, .float .f64 0, .string (⟨#[]⟩ : ByteArray)]) ?_ 3 _ rfl; (with_reducible repeat (first | refine blk_drewN ?_ _ | refine blk_drew ?_ | refine blk_alloc ?_ _)); refine blk_put (cs := #[.int .i64 (wrap64 ((wrap64 (bt a0 0)) - 1)), .int .i64 0, .float .f64 0, .string (⟨#[]⟩ : ByteArray)]) ?_ 2 _ rfl; (with_reducible repeat (first | refine blk_drewN ?_ _ | refine blk_drew ?_ | refine blk_alloc ?_ _)); refine blk_put (cs := #[.int .i64 (wrap64 ((wrap64 (bt a0 0)) - 1)), .int .i64 0, .float .f64 0, .string (⟨#[]⟩ : ByteArray)]) ?_ 1 _ rfl; (with_reducible repeat (first | refine blk_drewN ?_ _ | refine blk_drew ?_ | refine blk_alloc ?_ _)); refine blk_put (cs := #[.int .i64 0, .int .i64 0, .float .f64 0, .string (⟨#[]⟩ : ByteArray)]) ?_ 0 _ rfl; (with_reducible repeat (first | refine blk_drewN ?_ _ | refine blk_drew ?_ | refine blk_alloc ?_ _)); exact BK509.out) Tryd.underlying50 rfl (by kernel_rfl)) rfl ?_
               exact ⟨by first | rfl | (simp [errW_none, errW_some] <;> rfl) | (simp [*, errW_none, errW_some] <;> rfl), by repeat (first | (with_reducible first | exact HB.out | apply below_alloc | apply pw_below_drewN | apply below_drew1 | refine below_set ?_ GE509.out | refine below_set ?_ GE510.out) | exact HB.out)⟩
 ·rw [if_neg c2] at H
  exact absurd H (by simp)
end Go.Proofs.YtpiifdbicibelaaDoor.PA
end
section
namespace Go.Proofs.YtpiifdbicibelaaDoor.Pure
open Go.RowKit Go.Proofs Go.Proofs.YtpiifdbicibelaaDoorW.PrintWords Go.Proofs.YtpiifdbicibelaaDoorW.PrintLast Go.Proofs.YtpiifdbicibelaaDoorW.PrintMore Go.Proofs.YtpiifdbicibelaaDoor.PA Go.Proofs.YtpiifdbicibelaaDoor.OpenK
set_option linter.unusedVariables false
set_option linter.unusedSimpArgs false
theorem str_size (L : List Int) : (strOfNums L).size = L.length := by
  rw [← data_length, strOfNums_data]; simp [toB]
theorem str_bytes (s : ByteArray) : strOfNums (bytesOf s) = s := by
  apply Go.WideShapes.bytes_inj
  rw [strOfNums_data]
  simp [toB, bytesOf, List.map_map, Function.comp_def]
theorem bytesOf_bytes (s : ByteArray) : Bytes (bytesOf s) := by
  intro x hx
  simp [bytesOf] at hx
  obtain ⟨b, _, rfl⟩ := hx
  have := b.toNat_lt
  omega
theorem toB_inj : ∀ {u v : List Int}, Bytes u → Bytes v → toB u = toB v → u = v
  | [], [], _, _, _ => rfl
  | [], _ :: _, _, _, h => by simp [toB] at h
  | _ :: _, [], _, _, h => by simp [toB] at h
  | a :: u, b :: v, hu, hv, h => by
    simp only [toB, List.map_cons, List.cons.injEq] at h
    have ha := hu a (by simp)
    have hb := hv b (by simp)
    have e := congrArg UInt8.toNat h.1
    rw [ofNat_toNat ha, ofNat_toNat hb] at e
    have e2 := toB_inj (u := u) (v := v) (fun x hx => hu x (by simp [hx])) (fun x hx => hv x (by simp [hx])) (by simpa [toB] using h.2)
    subst e2
    congr 1
    omega
theorem str_inj {u v : List Int} (hu : Bytes u) (hv : Bytes v) (h : strOfNums u = strOfNums v) : u = v := by
  refine toB_inj hu hv ?_
  rw [← strOfNums_data, ← strOfNums_data, h]
theorem str_bt {L : List Int} (hL : Bytes L) (i : Nat) (h : i < L.length) : bt (strOfNums L) (i : Int) = L[i] := by
  unfold bt
  simp only [Int.toNat_natCast]
  rw [dif_pos (by rw [str_size]; exact h)]
  have h1 : (strOfNums L)[i]'(by rw [str_size]; exact h) = (strOfNums L).data.toList[i]'(by rw [strOfNums_data]; simpa [toB] using h) := rfl
  rw [h1]
  have h2 : (strOfNums L).data.toList[i]'(by rw [strOfNums_data]; simpa [toB] using h) = UInt8.ofNat (L[i]).toNat := by
    simp only [strOfNums_data, toB, List.getElem_map]
  rw [h2, ofNat_toNat (hL _ (List.getElem_mem h))]
  have := hL _ (List.getElem_mem h)
  omega
theorem str_drop (L : List Int) (i : Nat) : (strOfNums L).extract i (strOfNums L).size = strOfNums (L.drop i) := by
  apply Go.WideShapes.bytes_inj
  rw [Lib.extract_to_end, strOfNums_data, strOfNums_data]
  simp [toB, List.map_drop]
theorem str_take (L : List Int) (i j : Nat) : (strOfNums L).extract i j = strOfNums ((L.drop i).take (j - i)) := by
  apply Go.WideShapes.bytes_inj
  rw [strOfNums_data]
  have := Lib.extract_data (strOfNums L) i j
  rw [this, strOfNums_data]
  simp [toB, List.map_take, List.map_drop]
theorem str_drop' (L : List Int) (i : Nat) : (strOfNums L).extract i L.length = strOfNums (L.drop i) := by
  have := str_drop L i
  rwa [str_size] at this
theorem Bytes.drop {L : List Int} (h : Bytes L) (i : Nat) : Bytes (L.drop i) := fun x hx => h x (List.mem_of_mem_drop hx)
theorem Bytes.take {L : List Int} (h : Bytes L) (i : Nat) : Bytes (L.take i) := fun x hx => h x (List.mem_of_mem_take hx)
theorem Bytes.tail {a : Int} {L : List Int} (h : Bytes (a :: L)) : Bytes L := fun x hx => h x (by simp [hx])
theorem Bytes.app {L M : List Int} (h : Bytes (L ++ M)) : Bytes L ∧ Bytes M := ⟨fun x hx => h x (by simp [hx]), fun x hx => h x (by simp [hx])⟩
def num : List Int → Int
  | [] => 0
  | x :: L => x * 256 ^ L.length + num L
theorem pow_pos (n : Nat) : (0 : Int) < 256 ^ n := Int.pow_pos (by decide)
theorem num_range : ∀ {L : List Int}, Bytes L → 0 ≤ num L ∧ num L < 256 ^ L.length
  | [], _ => by simp [num]
  | x :: L, h => by
    have ih := num_range h.tail
    have hx := h x (by simp)
    have hp := pow_pos L.length
    have h1 : 0 ≤ x * 256 ^ L.length := Int.mul_nonneg hx.1 (Int.le_of_lt hp)
    have h2 : x * 256 ^ L.length ≤ 255 * 256 ^ L.length := Int.mul_le_mul_of_nonneg_right hx.2 (Int.le_of_lt hp)
    simp only [num, List.length_cons, Int.pow_succ]
    omega
theorem be_num_aux : ∀ (L : List Int) (c : Int), Bytes L → be (c * 256 ^ L.length + num L) L.length = L
  | [], c, _ => rfl
  | x :: L, c, h => by
    have hx := h x (by simp)
    have hr := num_range h.tail
    have hp := pow_pos L.length
    have e : c * 256 ^ (L.length + 1) + num (x :: L) = (c * 256 + x) * 256 ^ L.length + num L := by
      simp only [num, Int.pow_succ]
      rw [Int.add_mul, Int.mul_assoc, Int.mul_comm (256 ^ L.length) 256]
      omega
    simp only [List.length_cons]
    rw [e, be]
    have hd : ((c * 256 + x) * 256 ^ L.length + num L) / 256 ^ L.length = c * 256 + x := by
      rw [Int.add_comm, Int.add_mul_ediv_right _ _ (by omega), Int.ediv_eq_zero_of_lt hr.1 hr.2]; omega
    rw [hd, be_num_aux L (c * 256 + x) h.tail]
    congr 1
    omega
theorem be_num {L : List Int} (h : Bytes L) : be (num L) L.length = L := by
  have := be_num_aux L 0 h
  simpa using this
theorem num_be (u : Int) (h0 : 0 ≤ u) : ∀ n, num (be u n) = u % 256 ^ n
  | 0 => by simp [be, num, Int.emod_one]
  | n + 1 => by
    have ih := num_be u h0 n
    simp only [be, num, be_length, ih]
    obtain ⟨U, rfl⟩ := Int.eq_ofNat_of_zero_le h0
    have hm := Nat.mod_mul (a := 256 ^ n) (b := 256) (x := U)
    have hpw : (256 : Int) ^ n = ((256 ^ n : Nat) : Int) := by simp
    rw [Int.pow_succ, hpw, ← Int.natCast_ediv, ← Int.natCast_emod]
    have e1 : ((U / 256 ^ n : Nat) : Int) % 256 = ((U / 256 ^ n % 256 : Nat) : Int) := by simp
    have e2 : (U : Int) % (((256 ^ n : Nat) : Int) * 256) = ((U % (256 ^ n * 256) : Nat) : Int) := by simp
    rw [e1, e2, hm, Nat.mul_comm (256 ^ n)]
    simp
    omega
theorem or_low (x b : Int) (hx : 0 ≤ x ∧ x < 72057594037927936) (hb : 0 ≤ b ∧ b ≤ 255) : Go.bits .or .u64 (IntKind.u64.wrap (x * 256)) (IntKind.u64.wrap b) = x * 256 + b := by
  rw [u64_wrap_id (by omega) (by omega), u64_wrap_id (by omega) (by omega)]
  have e1 : Go.bits .or .u64 (x * 256) b = IntKind.u64.wrap (((BitVec.ofInt 64 (x * 256)) ||| (BitVec.ofInt 64 b)).toNat : Int) := rfl
  rw [e1, BitVec.toNat_or, BitVec.toNat_ofInt, BitVec.toNat_ofInt, u64_wrap]
  have e2 : ((x * 256) % ((2 ^ 64 : Nat) : Int)).toNat = 2 ^ 8 * x.toNat := by omega
  have e3 : (b % ((2 ^ 64 : Nat) : Int)).toNat = b.toNat := by omega
  rw [e2, e3, ← Nat.two_pow_add_eq_or_of_lt (by omega)]
  omega
theorem num_app : ∀ (L : List Int) (b : Int), num (L ++ [b]) = num L * 256 + b
  | [], b => by simp [num]
  | x :: L, b => by
    simp only [List.cons_append, num, List.length_append, List.length_singleton, num_app L b, Int.pow_succ]
    rw [Int.add_mul, ← Int.mul_assoc]; omega
theorem pow8 {n : Nat} (h : n ≤ 7) : (256 : Int) ^ n ≤ 72057594037927936 := by
  have h1 : (256 : Nat) ^ n ≤ 256 ^ 7 := Nat.pow_le_pow_right (by decide) h
  have h2 : ((256 ^ n : Nat) : Int) = (256 : Int) ^ n := by simp
  omega
theorem number_ev (L : List Int) (hL : Bytes L) (hl : L.length ≤ 8) : Ev (fun k => code_number.f k (strOfNums L)) (num L) := by
  have go : ∀ (m i : Nat), i + m = L.length → Ev (fun k => code_number.l0 k (strOfNums L) (num (L.take i)) (L.length : Int) (i : Int)) (num L) := by
    intro m
    induction m with
    | zero =>
      intro i hi
      refine Ev.from_ 1 fun k => ?_
      simp only [code_number.l0]
      rw [if_neg (by omega), List.take_of_length_le (by omega)]
    | succ m ih =>
      intro i hi
      have hlt : i < L.length := by omega
      have hr := num_range (hL.take i)
      have hp := pow8 (n := (L.take i).length) (by rw [List.length_take]; omega)
      refine Ev.step (g := fun k => code_number.l0 k (strOfNums L) (num (L.take (i + 1))) (L.length : Int) ((i + 1 : Nat) : Int)) (fun k => ?_) (ih (i + 1) (by omega))
      simp only [code_number.l0]
      rw [if_pos (by omega), if_pos (by omega), if_pos (by rw [str_size]; omega), str_bt hL i hlt, or_low _ _ ⟨hr.1, by omega⟩ (hL _ (List.getElem_mem hlt)), wrap64_id (by omega) (by omega), ← num_app, List.take_append_getElem hlt]
      rfl
  have := go L.length 0 (by omega)
  simpa [code_number.f, str_size, num] using this
theorem number_ref_ev (L : List Int) (hL : Bytes L) (hl : L.length ≤ 8) : Ev (fun k => vellumref02_number.f k (strOfNums L)) (num L) := by
  have go : ∀ (m i : Nat), i + m = L.length → Ev (fun k => vellumref02_number.l0 k (strOfNums L) (num (L.take i)) (i : Int)) (num L) := by
    intro m
    induction m with
    | zero =>
      intro i hi
      refine Ev.from_ 1 fun k => ?_
      simp only [vellumref02_number.l0]
      rw [if_neg (by rw [str_size]; omega), List.take_of_length_le (by omega)]
    | succ m ih =>
      intro i hi
      have hlt : i < L.length := by omega
      have hr := num_range (hL.take i)
      have hp := pow8 (n := (L.take i).length) (by rw [List.length_take]; omega)
      refine Ev.step (g := fun k => vellumref02_number.l0 k (strOfNums L) (num (L.take (i + 1))) ((i + 1 : Nat) : Int)) (fun k => ?_) (ih (i + 1) (by omega))
      simp only [vellumref02_number.l0]
      rw [if_pos (by rw [str_size]; omega), if_pos (by omega), str_bt hL i hlt, or_low _ _ ⟨hr.1, by omega⟩ (hL _ (List.getElem_mem hlt)), wrap64_id (by omega) (by omega), ← num_app, List.take_append_getElem hlt]
      rfl
  have := go L.length 0 (by omega)
  simpa [vellumref02_number.f, num] using this
theorem take_f (L : List Int) (n : Nat) : code_take.f (strOfNums L) (n : Int) = some (if L.length < n then ((⟨#[]⟩ : ByteArray), (⟨#[]⟩ : ByteArray), false) else (strOfNums (L.take n), strOfNums (L.drop n), true)) := by
  unfold code_take.f
  rw [str_size]
  by_cases h : L.length < n
  · rw [if_pos (by omega), if_pos h]
  · rw [if_neg (by omega), if_neg h, if_pos (by omega), if_pos (by omega), str_drop', str_take]
    simp
end Go.Proofs.YtpiifdbicibelaaDoor.Pure
end
section
namespace Go.Proofs.YtpiifdbicibelaaDoor.Pure
open Go.RowKit Go.Proofs Go.Proofs.YtpiifdbicibelaaDoorW.PrintWords Go.Proofs.YtpiifdbicibelaaDoorW.PrintLast Go.Proofs.YtpiifdbicibelaaDoorW.PrintMore Go.Proofs.YtpiifdbicibelaaDoor.PA Go.Proofs.YtpiifdbicibelaaDoor.OpenK
set_option linter.unusedVariables false
set_option linter.unusedSimpArgs false
theorem xor_ones (n j : Nat) (h : n < 2 ^ j) : n ^^^ (2 ^ j - 1) = 2 ^ j - 1 - n := by
  apply Nat.eq_of_testBit_eq
  intro i
  have e : 2 ^ j - 1 - n = 2 ^ j - (n + 1) := by omega
  rw [e, Nat.testBit_xor, Nat.testBit_two_pow_sub_one, Nat.testBit_two_pow_sub_succ h]
  by_cases hi : i < j
  · simp [hi]
  · have : n.testBit i = false := Nat.testBit_lt_two_pow (Nat.lt_of_lt_of_le h (Nat.pow_le_pow_right (by decide) (by omega)))
    simp [hi, this]
theorem mask_shr (k : Nat) (h1 : 1 ≤ k) (h8 : k ≤ 8) : shr .u64 18446744073709551615 (64 - 8 * (k : Int)) = 256 ^ k - 1 := by
  obtain rfl | rfl | rfl | rfl | rfl | rfl | rfl | rfl : k = 1 ∨ k = 2 ∨ k = 3 ∨ k = 4 ∨ k = 5 ∨ k = 6 ∨ k = 7 ∨ k = 8 := by omega
  all_goals decide
theorem pow_nat (k : Nat) : (256 : Int) ^ k = ((2 ^ (8 * k) : Nat) : Int) := by
  rw [Nat.pow_mul]; simp
theorem xor_mask (n : Int) (k : Nat) (h0 : 0 ≤ n) (hn : n < 256 ^ k) (h1 : 1 ≤ k) (h8 : k ≤ 8) : Go.bits .xor .u64 n (shr .u64 18446744073709551615 (64 - 8 * (k : Int))) = 256 ^ k - 1 - n := by
  rw [mask_shr k h1 h8]
  have hp : (2 : Nat) ^ (8 * k) ≤ 2 ^ 64 := Nat.pow_le_pow_right (by decide) (by omega)
  rw [pow_nat] at hn ⊢
  have e1 : Go.bits .xor .u64 n (((2 ^ (8 * k) : Nat) : Int) - 1) = IntKind.u64.wrap (((BitVec.ofInt 64 n) ^^^ (BitVec.ofInt 64 (((2 ^ (8 * k) : Nat) : Int) - 1))).toNat : Int) := rfl
  rw [e1, BitVec.toNat_xor, BitVec.toNat_ofInt, BitVec.toNat_ofInt, u64_wrap]
  have h2 : (n % ((2 ^ 64 : Nat) : Int)).toNat = n.toNat := by omega
  have hpos : 0 < 2 ^ (8 * k) := Nat.pow_pos (by decide)
  have h3 : ((((2 ^ (8 * k) : Nat) : Int) - 1) % ((2 ^ 64 : Nat) : Int)).toNat = 2 ^ (8 * k) - 1 := by omega
  rw [h2, h3, xor_ones _ _ (by omega)]
  omega
theorem and_mask (t : Int) (k : Nat) (h0 : 0 ≤ t) (ht : t < 256 ^ k) (h1 : 1 ≤ k) (h8 : k ≤ 8) :
    Go.bits .and .u64 (not64 t) (IntKind.u64.wrap ((shl .u64 1 (IntKind.u64.wrap (8 * (k : Int)))) - 1)) = 256 ^ k - 1 - t := by
  have hp : (2 : Nat) ^ (8 * k) ≤ 2 ^ 64 := Nat.pow_le_pow_right (by decide) (by omega)
  have hpos : 0 < 2 ^ (8 * k) := Nat.pow_pos (by decide)
  have hm : IntKind.u64.wrap ((shl .u64 1 (IntKind.u64.wrap (8 * (k : Int)))) - 1) = (256 : Int) ^ k - 1 := by
    obtain rfl | rfl | rfl | rfl | rfl | rfl | rfl | rfl : k = 1 ∨ k = 2 ∨ k = 3 ∨ k = 4 ∨ k = 5 ∨ k = 6 ∨ k = 7 ∨ k = 8 := by omega
    all_goals decide
  rw [hm]
  rw [pow_nat] at ht ⊢
  rw [not64_eq t h0 (by omega)]
  have e1 : Go.bits .and .u64 (18446744073709551615 - t) (((2 ^ (8 * k) : Nat) : Int) - 1) = IntKind.u64.wrap (((BitVec.ofInt 64 (18446744073709551615 - t)) &&& (BitVec.ofInt 64 (((2 ^ (8 * k) : Nat) : Int) - 1))).toNat : Int) := rfl
  rw [e1, BitVec.toNat_and, BitVec.toNat_ofInt, BitVec.toNat_ofInt, u64_wrap]
  have h2 : ((18446744073709551615 - t) % ((2 ^ 64 : Nat) : Int)).toNat = 18446744073709551615 - t.toNat := by omega
  have h3 : ((((2 ^ (8 * k) : Nat) : Int) - 1) % ((2 ^ 64 : Nat) : Int)).toNat = 2 ^ (8 * k) - 1 := by omega
  rw [h2, h3, Nat.and_two_pow_sub_one_eq_mod]
  have h4 : (18446744073709551615 - t.toNat) % 2 ^ (8 * k) = 2 ^ (8 * k) - 1 - t.toNat := by
    have := top_mod (n := k) (u := t.toNat) h8 (by rw [Nat.pow_mul] at ht; have : (256 : Nat) ^ k = (2 ^ 8) ^ k := rfl; omega)
    have e : (256 : Nat) ^ k = 2 ^ (8 * k) := by rw [Nat.pow_mul]
    rwa [e] at this
  rw [h4]
  omega
def rawInt : List Int → Option (Int × Bool × Nat)
  | [] => none
  | h :: M => if 8 < (h - 128).natAbs ∨ M.length < (h - 128).natAbs then none
    else some (if h < 128 then 256 ^ (h - 128).natAbs - 1 - num (M.take (h - 128).natAbs) else num (M.take (h - 128).natAbs), decide (h < 128), (h - 128).natAbs)
def intOfRaw (m : Int) (b : Bool) : Int := if b then -m - 1 else m
def fitsRaw (m : Int) (b : Bool) (k : Nat) : Bool := decide (nb m.toNat = k) || (b && decide (m = 0) && decide (k = 1))
theorem raw_range {L : List Int} (hL : Bytes L) {m : Int} {b : Bool} {k : Nat} (h : rawInt L = some (m, b, k)) : 0 ≤ m ∧ m < 256 ^ k ∧ k ≤ 8 ∧ k + 1 ≤ L.length ∧ (b = true → 1 ≤ k) := by
  cases L with
  | nil => cases h
  | cons x M =>
    simp only [rawInt] at h
    split at h
    · cases h
    · rename_i hk
      simp only [Option.some.injEq, Prod.mk.injEq] at h
      obtain ⟨rfl, rfl, rfl⟩ := h
      have hr := num_range (hL.tail.take (x - 128).natAbs)
      have hl : (M.take (x - 128).natAbs).length = (x - 128).natAbs := by rw [List.length_take]; omega
      rw [hl] at hr
      have hb : decide (x < 128) = true → 1 ≤ (x - 128).natAbs := fun h => by have := of_decide_eq_true h; omega
      refine ⟨?_, ?_, by omega, by simp; omega, hb⟩
      · split <;> omega
      · split <;> omega
theorem raw_sound {L : List Int} (hL : Bytes L) {m : Int} {b : Bool} {k : Nat} (h : rawInt L = some (m, b, k)) (hf : fitsRaw m b k = true) (hm : m ≤ 9223372036854775807) :
    (Lit.int .i64 (intOfRaw m b)).wf = true ∧ L = codeInt (intOfRaw m b) ++ L.drop (k + 1) := by
  have hr := raw_range hL h
  have hwf : (Lit.int .i64 (intOfRaw m b)).wf = true := by
    have : -9223372036854775808 ≤ intOfRaw m b ∧ intOfRaw m b ≤ 9223372036854775807 := by unfold intOfRaw; split <;> omega
    simpa [Lit.wf, IntKind.min, IntKind.max, IntKind.signed, IntKind.bits] using this
  refine ⟨hwf, ?_⟩
  cases L with
  | nil => cases h
  | cons x M =>
    have hx := hL x (by simp)
    simp only [rawInt] at h
    split at h
    · cases h
    · rename_i hk
      simp only [Option.some.injEq, Prod.mk.injEq] at h
      obtain ⟨h1, h2, h3⟩ := h
      have hl : (M.take k).length = k := by rw [List.length_take]; omega
      have hbn := be_num (hL.tail.take k)
      have hn := num_range (hL.tail.take k)
      rw [hl] at hbn hn
      rw [h3] at h1
      cases b with
      | true =>
        have hx2 : x < 128 := of_decide_eq_true h2
        rw [if_pos hx2] at h1
        have em : intOfRaw m true = -m - 1 := rfl
        have eq1 : (-(-m - 1 + 1)).toNat = m.toNat := by omega
        have hkk : max (nb m.toNat) 1 = k := by
          unfold fitsRaw at hf
          simp at hf
          have hk1 := hr.2.2.2.2 rfl
          rcases hf with hf | ⟨hf1, hf2⟩
          · omega
          · subst hf1 hf2
            have hz : nb 0 = 0 := by unfold nb; simp
            show max (nb 0) 1 = 1
            rw [hz]; rfl
        rw [em]
        unfold codeInt
        rw [if_neg (by omega), eq1, hkk]
        have e3 : (128 - (k : Int)) = x := by omega
        have e4 : be (18446744073709551615 - -(-m - 1 + 1)) k = M.take k := by
          rw [← hbn]
          have e5 : 18446744073709551615 - -(-m - 1 + 1) = num (M.take k) + (18446744073709551616 / 256 ^ k - 1) * 256 ^ k := by
            have hdiv : (18446744073709551616 : Int) / 256 ^ k * 256 ^ k = 18446744073709551616 := by
              obtain rfl | rfl | rfl | rfl | rfl | rfl | rfl | rfl : k = 1 ∨ k = 2 ∨ k = 3 ∨ k = 4 ∨ k = 5 ∨ k = 6 ∨ k = 7 ∨ k = 8 := by omega
              all_goals decide
            rw [Int.sub_mul, hdiv]
            omega
          rw [e5]
          have hall : ∀ (n : Nat) (u c : Int), n ≤ k → be (u + c * 256 ^ k) n = be u n := by
            intro n
            induction n with
            | zero => intro u c _; rfl
            | succ n ih =>
              intro u c hn
              simp only [be]
              rw [ih u c (by omega)]
              congr 1
              have e6 : c * 256 ^ k = (c * 256 ^ (k - n - 1) * 256) * 256 ^ n := by
                rw [Int.mul_assoc (c * 256 ^ (k - n - 1)), ← Int.pow_succ', Int.mul_assoc, ← Int.pow_add]
                congr 2; omega
              rw [e6, Int.add_mul_ediv_right _ _ (by have := pow_pos n; omega)]
              omega
          exact hall k _ _ (Nat.le_refl _)
        rw [e4]
        simp only [List.drop_succ_cons, List.cons_append, List.take_append_drop]
        congr 1
        omega
      | false =>
        have hx2 : ¬ x < 128 := of_decide_eq_false h2
        rw [if_neg hx2] at h1
        have em : intOfRaw m false = m := rfl
        have hkk : nb m.toNat = k := by
          unfold fitsRaw at hf
          simpa using hf
        rw [em]
        unfold codeInt
        rw [if_pos hr.1, hkk, ← h1, hbn]
        simp only [List.drop_succ_cons, List.cons_append, List.take_append_drop]
        congr 1
        omega
theorem raw_complete {n : Int} (hn : (Lit.int .i64 n).wf = true) (R : List Int) : ∃ m k, rawInt (codeInt n ++ R) = some (m, decide (n < 0), k) ∧ intOfRaw m (decide (n < 0)) = n ∧ fitsRaw m (decide (n < 0)) k = true ∧ m ≤ 9223372036854775807 ∧ (codeInt n).length = k + 1 := by
  obtain ⟨h0, h1⟩ := isInt_range hn
  by_cases hp : 0 ≤ n
  · have hd : decide (n < 0) = false := decide_eq_false (by omega)
    rw [hd]
    have hk := nb_le 8 n.toNat (by omega)
    have hs := nb_spec n.toNat
    refine ⟨n, nb n.toNat, ?_, rfl, by simp [fitsRaw], h1, by unfold codeInt; rw [if_pos hp]; simp [be_length]⟩
    unfold codeInt
    rw [if_pos hp]
    have e1 : (128 + (nb n.toNat : Int) - 128).natAbs = nb n.toNat := by omega
    have e2 : (be n (nb n.toNat) ++ R).take (nb n.toNat) = be n (nb n.toNat) := by
      rw [List.take_append_of_le_length (by rw [be_length]; omega), List.take_of_length_le (by rw [be_length]; omega)]
    simp only [List.cons_append, rawInt, e1, e2]
    rw [if_neg (by simp [be_length]; omega), if_neg (by omega), num_be n hp]
    have e3 : n % 256 ^ nb n.toNat = n := by
      refine Int.emod_eq_of_lt hp ?_
      have : ((256 ^ nb n.toNat : Nat) : Int) = (256 : Int) ^ nb n.toNat := by simp
      omega
    rw [e3, decide_eq_false (p := (128 + (nb n.toNat : Int)) < 128) (by omega)]
  · have hd : decide (n < 0) = true := decide_eq_true (by omega)
    rw [hd]
    have hk := nb_le 8 (-(n + 1)).toNat (by omega)
    have hs := nb_spec (-(n + 1)).toNat
    generalize hu : (-(n + 1)).toNat = u at *
    have hun : (u : Int) = -(n + 1) := by omega
    generalize hkk : max (nb u) 1 = k at *
    have hk8 : k ≤ 8 := by omega
    have hk1 : 1 ≤ k := by omega
    have huk : u < 256 ^ k := Nat.lt_of_lt_of_le hs (Nat.pow_le_pow_right (by decide) (by omega))
    refine ⟨-(n + 1), k, ?_, by simp [intOfRaw], ?_, by omega, by unfold codeInt; rw [if_neg hp, hu, hkk]; simp [be_length]⟩
    · unfold codeInt
      rw [if_neg hp, hu, hkk]
      have e1 : (128 - (k : Int) - 128).natAbs = k := by omega
      have e2 : (be (18446744073709551615 - -(n + 1)) k ++ R).take k = be (18446744073709551615 - -(n + 1)) k := by
        rw [List.take_append_of_le_length (by rw [be_length]; omega), List.take_of_length_le (by rw [be_length]; omega)]
      simp only [List.cons_append, rawInt, e1, e2]
      rw [if_neg (by simp [be_length]; omega), if_pos (by omega), num_be _ (by omega)]
      have e3 : (18446744073709551615 - -(n + 1)) % 256 ^ k = 256 ^ k - 1 - -(n + 1) := by
        have ht := top_mod (n := k) (u := u) hk8 huk
        have hpw : ((256 ^ k : Nat) : Int) = (256 : Int) ^ k := by simp
        have hle : (256 : Nat) ^ k ≤ 256 ^ 8 := Nat.pow_le_pow_right (by decide) hk8
        have hc : (18446744073709551615 - -(n + 1)) = ((18446744073709551615 - u : Nat) : Int) := by omega
        rw [hc, ← hpw, ← Int.natCast_emod, ht]
        omega
      rw [e3, decide_eq_true (p := (128 - (k : Int)) < 128) (by omega)]
      have e4 : (256 : Int) ^ k - 1 - (256 ^ k - 1 - -(n + 1)) = -(n + 1) := by omega
      rw [e4]
    · unfold fitsRaw
      have : (-(n + 1)).toNat = u := hu
      rw [this]
      simp
      by_cases hz : u = 0
      · right; subst hz
        have : nb 0 = 0 := by unfold nb; simp
        omega
      · left; have := nb_pos hz; omega
def zeroG : Int × Int × Nat × ByteArray × ByteArray × Bool := (0, 0, 0, (⟨#[]⟩ : ByteArray), (⟨#[]⟩ : ByteArray), false)
def gotInt (L : List Int) : Int × Int × Nat × ByteArray × ByteArray × Bool :=
  match rawInt L with
  | none => zeroG
  | some (m, b, k) => if fitsRaw m b k = true ∧ m ≤ 9223372036854775807 then (2, intOfRaw m b, 0, (⟨#[]⟩ : ByteArray), strOfNums (L.drop (k + 1)), true) else zeroG
theorem getInt_ev (L : List Int) (hL : Bytes L) : Ev (fun k => code_getInt.f k (strOfNums L)) (gotInt L) := by
  have z64 : ∀ {x : Int}, -1000 ≤ x → x ≤ 1000 → wrap64 x = x := fun h1 h2 => wrap64_id (by omega) (by omega)
  simp only [code_getInt.f]
  have ht' : code_take.f (strOfNums L) 1 = some (if L.length < 1 then ((⟨#[]⟩ : ByteArray), (⟨#[]⟩ : ByteArray), false) else (strOfNums (L.take 1), strOfNums (L.drop 1), true)) := take_f L 1
  cases L with
  | nil =>
    refine Ev.bind (Ev.const ht') ?_
    refine Ev.neg (by simp) ?_
    exact Ev.pure
  | cons h M =>
    have hh := hL h (by simp)
    have hM : Bytes M := hL.tail
    rw [if_neg (by simp)] at ht'
    refine Ev.bind (Ev.const ht') ?_
    have hb : bt (strOfNums [h]) 0 = h := str_bt (L := [h]) (fun x hx => by simp at hx; subst hx; exact hh) 0 (by simp)
    refine Ev.pos rfl ?_
    show Ev (fun k => if 0 < ((strOfNums [h]).size : Int) then _ else none) _
    refine Ev.pos (by rw [str_size]; simp) ?_
    have e1 : wrap64 (wrap64 h - 128) = h - 128 := by rw [z64 (x := h) (by omega) (by omega), z64 (by omega) (by omega)]
    have e2 : wrap64 (-(h - 128)) = -(h - 128) := z64 (by omega) (by omega)
    simp only [List.take_succ_cons, List.take_zero, List.drop_succ_cons, List.drop_zero, hb, e1, e2]
    unfold gotInt
    simp only [rawInt]
    by_cases hneg : h < 128
    · refine Ev.pos (by omega) ?_
      obtain ⟨k, hk⟩ : ∃ k : Nat, (k : Int) = -(h - 128) := ⟨(128 - h).toNat, by omega⟩
      have hka : (h - 128).natAbs = k := by omega
      rw [← hk, hka]
      by_cases h8 : (k : Int) > 8
      · refine Ev.pos h8 ?_
        rw [if_pos (.inl (by omega))]
        exact Ev.pure
      refine Ev.neg h8 (Ev.bind (Ev.const (take_f M k)) ?_)
      by_cases hlen : M.length < k
      · rw [if_pos hlen, if_pos (.inr hlen)]
        exact Ev.neg (by simp) Ev.pure
      rw [if_neg hlen, if_neg (by omega)]
      have hl : (M.take k).length = k := by rw [List.length_take]; omega
      have hn := num_range (hM.take k)
      rw [hl] at hn
      refine Ev.pos rfl (Ev.bind (number_ev (M.take k) (hM.take k) (by omega)) ?_)
      have e3 : wrap64 (64 - wrap64 (8 * (k : Int))) = 64 - 8 * (k : Int) := by rw [z64 (x := 8 * (k : Int)) (by omega) (by omega), z64 (by omega) (by omega)]
      simp only [e3, xor_mask (num (M.take k)) k hn.1 hn.2 (by omega) (by omega)]
      refine Ev.pos (by omega) ?_
      rw [if_pos hneg, decide_eq_true hneg]
      generalize hmm : (256 : Int) ^ k - 1 - num (M.take k) = m
      have hm0 : 0 ≤ m := by omega
      have hpk : (256 : Int) ^ k ≤ 18446744073709551616 := by
        have h1 : (256 : Nat) ^ k ≤ 256 ^ 8 := Nat.pow_le_pow_right (by decide) (by omega)
        have h2 : ((256 ^ k : Nat) : Int) = (256 : Int) ^ k := by simp
        omega
      have hsz := size_code m.toNat (by omega)
      have hmc : ((m.toNat : Nat) : Int) = m := by omega
      rw [hmc] at hsz
      refine Ev.bind (Ev.const hsz) ?_
      have fin : ∀ (hf : fitsRaw m true k = true), Ev (fun kk => if m > 9223372036854775807 then some zeroG else some (2, wrap64 (wrap64 (-(wrap64 m)) - 1), 0, (⟨#[]⟩ : ByteArray), strOfNums (M.drop k), true))
          (if fitsRaw m true k = true ∧ m ≤ 9223372036854775807 then (2, intOfRaw m true, 0, (⟨#[]⟩ : ByteArray), strOfNums (M.drop k), true) else zeroG) := by
        intro hf
        by_cases hbig : m > 9223372036854775807
        · refine Ev.pos hbig ?_
          rw [if_neg (by omega)]
          exact Ev.pure
        · refine Ev.neg hbig ?_
          rw [if_pos ⟨hf, by omega⟩]
          rw [wrap64_id (n := m) (by omega) (by omega), wrap64_id (n := -m) (by omega) (by omega), wrap64_id (by omega) (by omega)]
          exact Ev.pure
      by_cases hs : (nb m.toNat : Int) = (k : Int)
      · exact Ev.pos hs (fin (by unfold fitsRaw; simp; left; omega))
      · refine Ev.neg hs ?_
        by_cases hz : m = 0
        · refine Ev.pos hz ?_
          by_cases hk1 : (k : Int) = 1
          · exact Ev.pos hk1 (fin (by unfold fitsRaw; simp [hz]; right; omega))
          · refine Ev.neg hk1 ?_
            rw [if_neg]
            · exact Ev.pure
            · rintro ⟨hf, _⟩
              unfold fitsRaw at hf
              simp [hz] at hf
              rw [hz] at hs
              rcases hf with hf | hf
              · exact hs (by simp; omega)
              · omega
        · refine Ev.neg hz ?_
          rw [if_neg]
          · exact Ev.pure
          · rintro ⟨hf, _⟩
            unfold fitsRaw at hf
            simp [hz] at hf
            omega
    · refine Ev.neg (by omega) ?_
      obtain ⟨k, hk⟩ : ∃ k : Nat, (k : Int) = h - 128 := ⟨(h - 128).toNat, by omega⟩
      have hka : (h - 128).natAbs = k := by omega
      rw [← hk]
      rw [hk, hka, ← hk]
      by_cases h8 : (k : Int) > 8
      · refine Ev.pos h8 ?_
        rw [if_pos (.inl (by omega))]
        exact Ev.pure
      refine Ev.neg h8 (Ev.bind (Ev.const (take_f M k)) ?_)
      by_cases hlen : M.length < k
      · rw [if_pos hlen, if_pos (.inr hlen)]
        exact Ev.neg (by simp) Ev.pure
      rw [if_neg hlen, if_neg (by omega)]
      have hl : (M.take k).length = k := by rw [List.length_take]; omega
      have hn := num_range (hM.take k)
      rw [hl] at hn
      refine Ev.pos rfl (Ev.bind (number_ev (M.take k) (hM.take k) (by omega)) ?_)
      rw [if_neg hneg, decide_eq_false hneg]
      generalize hmm : num (M.take k) = m at *
      have hpk : (256 : Int) ^ k ≤ 18446744073709551616 := by
        have h1 : (256 : Nat) ^ k ≤ 256 ^ 8 := Nat.pow_le_pow_right (by decide) (by omega)
        have h2 : ((256 ^ k : Nat) : Int) = (256 : Int) ^ k := by simp
        omega
      have hsz := size_code m.toNat (by omega)
      have hmc : ((m.toNat : Nat) : Int) = m := by omega
      rw [hmc] at hsz
      refine Ev.bind (Ev.const hsz) ?_
      by_cases hs : (nb m.toNat : Int) = (k : Int)
      · refine Ev.pos hs ?_
        have hf : fitsRaw m false k = true := by unfold fitsRaw; simp; omega
        show Ev _ (if fitsRaw m false k = true ∧ m ≤ 9223372036854775807 then (2, intOfRaw m false, 0, (⟨#[]⟩ : ByteArray), strOfNums (M.drop k), true) else zeroG)
        by_cases hbig : m > 9223372036854775807
        · refine Ev.pos hbig ?_
          rw [if_neg (by omega)]
          exact Ev.pure
        · refine Ev.neg hbig ?_
          rw [if_pos ⟨hf, by omega⟩]
          rw [wrap64_id (n := m) (by omega) (by omega)]
          exact Ev.pure
      · refine Ev.neg hs ?_
        show Ev _ (if fitsRaw m false k = true ∧ m ≤ 9223372036854775807 then (2, intOfRaw m false, 0, (⟨#[]⟩ : ByteArray), strOfNums (M.drop k), true) else zeroG)
        rw [if_neg]
        · exact Ev.pure
        · rintro ⟨hf, _⟩
          unfold fitsRaw at hf
          simp at hf
          omega
end Go.Proofs.YtpiifdbicibelaaDoor.Pure
end
section
namespace Go.Proofs.YtpiifdbicibelaaDoor.Pure
open Go.RowKit Go.Proofs Go.Proofs.YtpiifdbicibelaaDoorW.PrintWords Go.Proofs.YtpiifdbicibelaaDoorW.PrintLast Go.Proofs.YtpiifdbicibelaaDoorW.PrintMore Go.Proofs.YtpiifdbicibelaaDoor.PA Go.Proofs.YtpiifdbicibelaaDoor.OpenK
set_option linter.unusedVariables false
set_option linter.unusedSimpArgs false
theorem toB_nat (u : List UInt8) : toB (u.map fun b => (b.toNat : Int)) = u := by
  simp [toB, List.map_map, Function.comp_def]
theorem text_complete : ∀ (u acc : List UInt8) (R : List Int), Tail R → Bytes R → textOff acc (toB (codeText u ++ R)) = some (acc ++ u, toB R)
  | [], acc, R, hT, hR => by
    show textOff acc (0 :: toB R) = _
    rw [textOff_zero]
    · simp
    · intro l' e
      cases R with
      | nil => simp [toB] at e
      | cons x R =>
        have h1 := hT x R rfl
        have h2 := hR x (by simp)
        simp only [toB, List.map_cons, List.cons.injEq] at e
        have e2 := congrArg UInt8.toNat e.1
        rw [ofNat_toNat h2] at e2
        have : (255 : UInt8).toNat = 255 := rfl
        omega
  | b :: u, acc, R, hT, hR => by
    have ih := fun acc => text_complete u acc R hT hR
    simp only [codeText]
    split
    · rename_i h0
      subst h0
      show textOff acc (0 :: 255 :: toB (codeText u ++ R)) = _
      rw [textOff, ih]
      simp
    · rename_i h0
      have : toB (((b.toNat : Int) :: codeText u) ++ R) = b :: toB (codeText u ++ R) := by simp [toB]
      rw [this, textOff_ne h0, ih]
      simp
theorem text_sound : ∀ (n : Nat) (l acc t r : List UInt8), l.length ≤ n → textOff acc l = some (t, r) → ∃ u, t = acc ++ u ∧ (l.map fun b => (b.toNat : Int)) = codeText u ++ (r.map fun b => (b.toNat : Int))
  | _, [], acc, t, r, _, h => by simp [textOff] at h
  | 0, b :: l, acc, t, r, hn, _ => by simp at hn
  | n + 1, b :: l, acc, t, r, hn, h => by
    by_cases h0 : b = 0
    · subst h0
      by_cases h2 : ∃ l', l = 255 :: l'
      · obtain ⟨l', rfl⟩ := h2
        rw [textOff] at h
        obtain ⟨u, rfl, hu⟩ := text_sound n l' _ t r (by simp at hn; omega) h
        refine ⟨0 :: u, by simp, ?_⟩
        simp only [List.map_cons, codeText, if_pos, List.cons_append]
        rw [hu]; rfl
      · rw [textOff_zero (fun l' e => h2 ⟨l', e⟩)] at h
        simp only [Option.some.injEq, Prod.mk.injEq] at h
        obtain ⟨rfl, rfl⟩ := h
        exact ⟨[], by simp, by simp [codeText]⟩
    · rw [textOff_ne h0] at h
      obtain ⟨u, rfl, hu⟩ := text_sound n l _ t r (by simp at hn; omega) h
      refine ⟨b :: u, by simp, ?_⟩
      simp only [List.map_cons, codeText, if_neg h0, List.cons_append]
      rw [hu]
theorem nat_toB {L : List Int} (h : Bytes L) : ((toB L).map fun b => (b.toNat : Int)) = L := by
  induction L with
  | nil => rfl
  | cons x L ih =>
    have hx := h x (by simp)
    simp only [toB, List.map_cons] at ih ⊢
    rw [ih h.tail, ofNat_toNat hx]
    congr 1
    omega
theorem str_toB (L : List Int) : (⟨(toB L).toArray⟩ : ByteArray) = strOfNums L := by
  apply Go.WideShapes.bytes_inj
  rw [strOfNums_data]
theorem xor_down (x : Int) (h0 : 9223372036854775808 ≤ x) (h1 : x < 18446744073709551616) : Go.bits .xor .u64 x 9223372036854775808 = x - 9223372036854775808 := by
  have h := xor_top (x - 9223372036854775808) (by omega) (by omega)
  have e1 : ∀ y : Int, Go.bits .xor .u64 y 9223372036854775808 = IntKind.u64.wrap (((BitVec.ofInt 64 y) ^^^ (BitVec.ofInt 64 9223372036854775808)).toNat : Int) := fun _ => rfl
  rw [e1] at h ⊢
  have hlt := ((BitVec.ofInt 64 (x - 9223372036854775808)) ^^^ (BitVec.ofInt 64 9223372036854775808)).isLt
  rw [u64_wrap_id (by omega) (by omega)] at h
  have hX : BitVec.ofInt 64 x = (BitVec.ofInt 64 (x - 9223372036854775808)) ^^^ (BitVec.ofInt 64 9223372036854775808) := by
    apply BitVec.eq_of_toNat_eq
    rw [BitVec.toNat_ofInt]
    omega
  rw [hX, BitVec.xor_assoc, BitVec.xor_self, BitVec.xor_zero, BitVec.toNat_ofInt, u64_wrap]
  omega
def floatOf (w : List Int) : Nat := if 9223372036854775808 ≤ num w then (num w - 9223372036854775808).toNat else (18446744073709551615 - num w).toNat
theorem floatOf_lt {w : List Int} (hw : Bytes w) (h8 : w.length = 8) : floatOf w < 18446744073709551616 := by
  have := num_range hw
  rw [h8] at this
  have e : (256 : Int) ^ 8 = 18446744073709551616 := by decide
  unfold floatOf
  split <;> omega
theorem floatOf_code {w : List Int} (hw : Bytes w) (h8 : w.length = 8) : codeBits (floatOf w) = w := by
  have hr := num_range hw
  have hb := be_num hw
  rw [h8] at hr hb
  have e : (256 : Int) ^ 8 = 18446744073709551616 := by decide
  unfold floatOf codeBits
  split
  · rw [if_pos (by omega)]
    have : (((num w - 9223372036854775808).toNat : Nat) : Int) + 9223372036854775808 = num w := by omega
    rw [this, hb]
  · rw [if_neg (by omega)]
    have : 18446744073709551615 - (((18446744073709551615 - num w).toNat : Nat) : Int) = num w := by omega
    rw [this, hb]
theorem codeBits_float {c : Nat} (hc : c < 18446744073709551616) : floatOf (codeBits c) = c := by
  have e : (256 : Int) ^ 8 = 18446744073709551616 := by decide
  unfold codeBits
  split
  · rename_i h
    have : num (be ((c : Int) + 9223372036854775808) 8) = (c : Int) + 9223372036854775808 := by rw [num_be _ (by omega), e]; omega
    unfold floatOf
    rw [this, if_pos (by omega)]; omega
  · rename_i h
    have : num (be (18446744073709551615 - (c : Int)) 8) = 18446744073709551615 - (c : Int) := by rw [num_be _ (by omega), e]; omega
    unfold floatOf
    rw [this, if_neg (by omega)]; omega
def gotFloat (L : List Int) : Int × Int × Nat × ByteArray × ByteArray × Bool :=
  if L.length < 8 then zeroG else (3, 0, floatOf (L.take 8), (⟨#[]⟩ : ByteArray), strOfNums (L.drop 8), plainF (floatOf (L.take 8)) == floatOf (L.take 8))
theorem getFloat_ev (L : List Int) (hL : Bytes L) : Ev (fun k => code_getFloat.f k (strOfNums L)) (gotFloat L) := by
  simp only [code_getFloat.f]
  refine Ev.bind (Ev.const (show code_take.f (strOfNums L) 8 = _ from take_f L 8)) ?_
  unfold gotFloat
  by_cases h : L.length < 8
  · rw [if_pos h, if_pos h]
    exact Ev.neg (by simp) Ev.pure
  · rw [if_neg h, if_neg h]
    have hl : (L.take 8).length = 8 := by rw [List.length_take]; omega
    have hr := num_range (hL.take 8)
    rw [hl] at hr
    have e : (256 : Int) ^ 8 = 18446744073709551616 := by decide
    refine Ev.pos rfl (Ev.bind (number_ev (L.take 8) (hL.take 8) (by omega)) ?_)
    have cast_eq : ∀ (a b : Nat) (c : Int), c = b → (((a : Nat) : Int) == c) = (a == b) := by
      intro a b c hc
      subst hc
      rw [Bool.eq_iff_iff, beq_iff_eq, beq_iff_eq]; omega
    by_cases h1 : 9223372036854775808 ≤ num (L.take 8)
    · refine Ev.pos (by omega) ?_
      rw [xor_down _ h1 (by omega)]
      have ef : floatOf (L.take 8) = (num (L.take 8) - 9223372036854775808).toNat := by unfold floatOf; rw [if_pos h1]
      rw [← ef]
      refine Ev.bind (v := (3, 0, plainF (floatOf (L.take 8)), (⟨#[]⟩ : ByteArray))) (Ev.from_ 1 fun k => by rw [plain_ev, if_pos rfl]) ?_
      rw [cast_eq _ (floatOf (L.take 8)) _ (by omega)]
      exact Ev.pure
    · refine Ev.neg (by omega) ?_
      rw [not64_eq _ (by omega) (by omega)]
      have ef : floatOf (L.take 8) = (18446744073709551615 - num (L.take 8)).toNat := by unfold floatOf; rw [if_neg h1]
      rw [← ef]
      refine Ev.bind (v := (3, 0, plainF (floatOf (L.take 8)), (⟨#[]⟩ : ByteArray))) (Ev.from_ 1 fun k => by rw [plain_ev, if_pos rfl]) ?_
      rw [cast_eq _ (floatOf (L.take 8)) _ (by omega)]
      exact Ev.pure
structure Told (v : S50) : Prop where
  ok : chkV v = 0
  wf : wf50 v
  plain : v.f0 = 3 → plainF v.f2 = v.f2
def tup (v : S50) (R : List Int) : Int × Int × Nat × ByteArray × ByteArray × Bool := (v.f0, v.f1, v.f2, v.f3, strOfNums R, true)
def gotText (tag : Int) (M : List Int) : Int × Int × Nat × ByteArray × ByteArray × Bool :=
  match textOff [] (toB M) with
  | none => (tag - 1, 0, 0, (⟨#[]⟩ : ByteArray), (⟨#[]⟩ : ByteArray), false)
  | some (t, r) => (tag - 1, 0, 0, ⟨t.toArray⟩, ⟨r.toArray⟩, chk (tag - 1) 0 0 ⟨t.toArray⟩ == 0)
def got : List Int → Int × Int × Nat × ByteArray × ByteArray × Bool
  | [] => zeroG
  | t :: M =>
    if t = 1 then (0, 0, 0, (⟨#[]⟩ : ByteArray), strOfNums M, true)
    else if t = 2 then (match M with | [] => zeroG | b :: M' => if b > 1 then zeroG else (1, b, 0, (⟨#[]⟩ : ByteArray), strOfNums M', true))
    else if t = 3 then gotInt M
    else if t = 4 then gotFloat M
    else if t = 5 ∨ t = 6 then gotText t M
    else zeroG
theorem textOff_len : ∀ (n : Nat) (l acc t r : List UInt8), l.length ≤ n → textOff acc l = some (t, r) → t.length ≤ acc.length + l.length ∧ r.length ≤ l.length
  | _, [], acc, t, r, _, h => by simp [textOff] at h
  | 0, b :: l, acc, t, r, hn, _ => by simp at hn
  | n + 1, b :: l, acc, t, r, hn, h => by
    by_cases h0 : b = 0
    · subst h0
      by_cases h2 : ∃ l', l = 255 :: l'
      · obtain ⟨l', rfl⟩ := h2
        rw [textOff] at h
        have := textOff_len n l' _ t r (by simp at hn; omega) h
        simp at this ⊢; omega
      · rw [textOff_zero (fun l' e => h2 ⟨l', e⟩)] at h
        simp only [Option.some.injEq, Prod.mk.injEq] at h
        obtain ⟨rfl, rfl⟩ := h
        simp
    · rw [textOff_ne h0] at h
      have := textOff_len n l _ t r (by simp at hn; omega) h
      simp at this ⊢; omega
theorem get_ev (L : List Int) (hL : Bytes L) (hne : L ≠ []) (hlen : L.length ≤ 1000000) : Ev (fun k => code_get.f k (strOfNums L)) (got L) := by
  cases L with
  | nil => exact absurd rfl hne
  | cons t M =>
    have hM := hL.tail
    have ht := hL t (by simp)
    have hb0 : bt (strOfNums (t :: M)) 0 = t := str_bt hL 0 (by simp)
    have hx : (strOfNums (t :: M)).extract 1 (strOfNums (t :: M)).size = strOfNums M := by rw [str_drop]; rfl
    have hsz : 1 ≤ ((strOfNums (t :: M)).size : Int) := by rw [str_size]; simp only [List.length_cons]; omega
    simp only [code_get.f, hb0, hx]
    refine Ev.pos (by omega) (Ev.pos hsz ?_)
    simp only [got]
    by_cases h1 : t = 1
    · rw [if_pos h1]; exact Ev.pos h1 Ev.pure
    rw [if_neg h1]
    refine Ev.neg h1 ?_
    by_cases h2 : t = 2
    · rw [if_pos h2]
      refine Ev.pos h2 (Ev.bind (Ev.const (show code_take.f (strOfNums M) 1 = _ from take_f M 1)) ?_)
      cases M with
      | nil => exact Ev.neg (by simp) Ev.pure
      | cons b M' =>
        have hb := hM b (by simp)
        rw [if_neg (show ¬ ((b :: M').length < 1) by simp)]
        have hbb : bt (strOfNums [b]) 0 = b := str_bt (L := [b]) (fun x hx => by simp at hx; subst hx; exact hb) 0 (by simp)
        refine Ev.pos rfl ?_
        show Ev (fun k => if 0 < ((strOfNums [b]).size : Int) then (if bt (strOfNums [b]) 0 > 1 then some zeroG else some (1, wrap64 (bt (strOfNums [b]) 0), 0, (⟨#[]⟩ : ByteArray), strOfNums M', true)) else none) (if b > 1 then zeroG else (1, b, 0, (⟨#[]⟩ : ByteArray), strOfNums M', true))
        refine Ev.pos (by rw [str_size]; simp) ?_
        rw [hbb, wrap64_id (by omega) (by omega)]
        by_cases h3 : b > 1
        · rw [if_pos h3, if_pos h3]; exact Ev.pure
        · rw [if_neg h3, if_neg h3]; exact Ev.pure
    rw [if_neg h2]
    refine Ev.neg h2 ?_
    by_cases h3 : t = 3
    · rw [if_pos h3]
      refine Ev.pos h3 (Ev.bind (getInt_ev M hM) ?_)
      exact Ev.pure
    rw [if_neg h3]
    refine Ev.neg h3 ?_
    by_cases h4 : t = 4
    · rw [if_pos h4]
      refine Ev.pos h4 (Ev.bind (getFloat_ev M hM) ?_)
      exact Ev.pure
    rw [if_neg h4]
    refine Ev.neg h4 ?_
    have hgs : code_getString.f (strOfNums M) = some (match textOff [] (toB M) with | some (t, l) => (⟨t.toArray⟩, ⟨l.toArray⟩, true) | none => ((⟨#[]⟩ : ByteArray), (⟨#[]⟩ : ByteArray), false)) := by
      unfold code_getString.f
      rw [if_pos (by rw [str_size]; simp at hlen; omega), strOfNums_data]
      all_goals (cases textOff [] (toB M) <;> rfl)
    have hj : ∀ (tag : Int), tag = 5 ∨ tag = 6 → Ev (fun k => code_get.j0 k (strOfNums M) tag true) (gotText tag M) := by
      intro tag htag
      refine Ev.step (g := fun k => (code_getString.f (strOfNums M)).bind fun bt493 => (if tag = 6 then (if bt493.2.2 = true then ((value_Check.f k 5 0 0 bt493.1).bind fun t497 => (some (5, 0, 0, bt493.1, bt493.2.1, (t497 == 0)))) else (some (5, 0, 0, bt493.1, bt493.2.1, false))) else (if bt493.2.2 = true then ((value_Check.f k 4 0 0 bt493.1).bind fun t498 => (some (4, 0, 0, bt493.1, bt493.2.1, (t498 == 0)))) else (some (4, 0, 0, bt493.1, bt493.2.1, false))))) (fun k => ?_) ?_
      · simp only [code_get.j0]
        rw [if_pos trivial]
      · refine Ev.bind (Ev.const hgs) ?_
        unfold gotText
        cases hto : textOff [] (toB M) with
        | none =>
          rcases htag with rfl | rfl
          · exact Ev.neg (by decide) (Ev.neg (by simp) Ev.pure)
          · exact Ev.pos rfl (Ev.neg (by simp) Ev.pure)
        | some tr =>
          obtain ⟨t', r'⟩ := tr
          have hl := textOff_len (toB M).length (toB M) [] t' r' (Nat.le_refl _) hto
          have hs : (⟨t'.toArray⟩ : ByteArray).size ≤ 140737488351232 := by
            show t'.toArray.size ≤ _
            simp [toB] at hl hlen ⊢; omega
          rcases htag with rfl | rfl
          · exact Ev.neg (by decide) (Ev.pos rfl (Ev.bind (Ev.from_ 6 fun k => check_code k _ _ _ _ hs) Ev.pure))
          · exact Ev.pos rfl (Ev.pos rfl (Ev.bind (Ev.from_ 6 fun k => check_code k _ _ _ _ hs) Ev.pure))
    by_cases h5 : t = 5
    · rw [if_pos (.inl h5)]
      refine Ev.pos h5 ?_
      have e : (t == 5) = true := by simp [h5]
      rw [e]
      exact hj t (.inl h5)
    refine Ev.neg h5 ?_
    by_cases h6 : t = 6
    · rw [if_pos (.inr h6)]
      have e : (t == 6) = true := by simp [h6]
      rw [e]
      exact hj t (.inr h6)
    · rw [if_neg (by omega)]
      have e : (t == 6) = false := by simp [h6]
      rw [e]
      refine Ev.from_ 1 fun k => ?_
      simp only [code_get.j0]
      rw [if_neg (by decide)]
      rfl
end Go.Proofs.YtpiifdbicibelaaDoor.Pure
end
section
namespace Go.Proofs.YtpiifdbicibelaaDoor.Pure
open Go.RowKit Go.Proofs Go.Proofs.YtpiifdbicibelaaDoorW.PrintWords Go.Proofs.YtpiifdbicibelaaDoorW.PrintLast Go.Proofs.YtpiifdbicibelaaDoorW.PrintMore Go.Proofs.YtpiifdbicibelaaDoor.PA Go.Proofs.YtpiifdbicibelaaDoor.OpenK
set_option linter.unusedVariables false
set_option linter.unusedSimpArgs false
abbrev G6 := Int × Int × Nat × ByteArray × ByteArray × Bool
def valOf (r : G6) : S50 := ⟨r.1, r.2.1, r.2.2.1, r.2.2.2.1⟩
theorem noText : (⟨#[]⟩ : ByteArray).toList = [] := by decide +kernel
theorem noText_of {d : ByteArray} (h : d.toList = []) : d = (⟨#[]⟩ : ByteArray) := by
  rw [Lib.toList_data] at h
  apply Go.WideShapes.bytes_inj
  rw [h]
theorem chk_fields {a b : Int} {c : Nat} {d : ByteArray} (h : chk a b c d = 0) :
    (0 ≤ a ∧ a ≤ 5) ∧ (a = 1 → b = 0 ∨ b = 1) ∧ (a ≠ 1 → a ≠ 2 → b = 0) ∧ (a ≠ 3 → c = 0) ∧ (a ≠ 4 → a ≠ 5 → d = (⟨#[]⟩ : ByteArray)) ∧ (a = 4 → Lib.validD d.data.toList = true) ∧ d.size ≤ 65536 := by
  have h0 := chk_ok h
  unfold chk at h
  split at h
  · cases h
  · rename_i hn
    refine ⟨h0.1, fun e => ?_, fun e1 e2 => ?_, fun e => ?_, fun e1 e2 => ?_, fun e => ?_, h0.2⟩
    · by_cases b0 : b = 0
      · exact .inl b0
      · by_cases b1 : b = 1
        · exact .inr b1
        · exact absurd (.inr (.inr (.inl ⟨e, b0, b1⟩))) hn
    · by_cases b0 : b = 0
      · exact b0
      · exact absurd (.inr (.inr (.inr (.inl ⟨e1, e2, b0⟩)))) hn
    · by_cases c0 : c = 0
      · exact c0
      · exact absurd (.inr (.inr (.inr (.inr (.inl ⟨e, c0⟩))))) hn
    · by_cases d0 : d.toList = []
      · exact noText_of d0
      · exact absurd (.inr (.inr (.inr (.inr (.inr (.inl ⟨e1, e2, d0⟩)))))) hn
    · cases hv : Lib.validD d.data.toList
      · exact absurd (.inr (.inr (.inr (.inr (.inr (.inr ⟨e, hv⟩)))))) hn
      · rfl
theorem chk_plain {a b : Int} (ha : a = 0 ∨ a = 1 ∨ a = 2 ∨ a = 3) (c : Nat) (h1 : a = 1 → b = 0 ∨ b = 1) (h2 : a ≠ 1 → a ≠ 2 → b = 0) (h3 : a ≠ 3 → c = 0) : chk a b c (⟨#[]⟩ : ByteArray) = 0 := by
  unfold chk
  rw [if_neg]
  · rw [if_neg]; show ¬ ((0 : Nat) : Int) > 65536; omega
  · rw [noText]
    rintro (h | h | ⟨h, g1, g2⟩ | ⟨g1, g2, h⟩ | ⟨g, h⟩ | ⟨_, _, h⟩ | ⟨h, _⟩)
    · omega
    · omega
    · rcases h1 h with h | h <;> omega
    · exact h (h2 g1 g2)
    · exact h (h3 g)
    · exact h rfl
    · omega
theorem wf_of {a b : Int} {c : Nat} {d : ByteArray} (ha : 0 ≤ a ∧ a ≤ 5) (hb : (Lit.int .i64 b).wf = true) (hc : c < 18446744073709551616) (hd : d.size ≤ 140737488351232) : wf50 ⟨a, b, c, d⟩ := by
  refine ⟨?_, hb, hc, hd⟩
  simpa [Lit.wf, IntKind.min, IntKind.max, IntKind.signed, IntKind.bits] using (show -9223372036854775808 ≤ a ∧ a ≤ 9223372036854775807 by omega)
theorem lit_small {b : Int} (h : 0 ≤ b ∧ b ≤ 1) : (Lit.int .i64 b).wf = true := by
  simpa [Lit.wf, IntKind.min, IntKind.max, IntKind.signed, IntKind.bits] using (show -9223372036854775808 ≤ b ∧ b ≤ 9223372036854775807 by omega)
theorem got_sound {L : List Int} (hL : Bytes L) (hlen : L.length ≤ 1000000) (hok : (got L).2.2.2.2.2 = true) :
    ∃ R, L = codeOf (valOf (got L)) ++ R ∧ (got L).2.2.2.2.1 = strOfNums R ∧ Told (valOf (got L)) := by
  cases L with
  | nil => simp [got, zeroG] at hok
  | cons t M =>
    have hM := hL.tail
    by_cases h1 : t = 1
    · subst h1
      have e : got (1 :: M) = (0, 0, 0, (⟨#[]⟩ : ByteArray), strOfNums M, true) := by simp [got]
      rw [e]
      refine ⟨M, by simp [codeOf, codeV, valOf], rfl, ?_⟩
      show Told (⟨0, 0, 0, (⟨#[]⟩ : ByteArray)⟩ : S50)
      exact ⟨chk_plain (.inl rfl) 0 (by decide) (fun _ _ => rfl) (fun _ => rfl), wf_of (by decide) (by decide) (by decide) (by decide), by simp⟩
    by_cases h2 : t = 2
    · subst h2
      cases M with
      | nil => simp [got, zeroG] at hok
      | cons b M' =>
        have hb := hM b (by simp)
        by_cases h3 : b > 1
        · simp [got, zeroG, h3] at hok
        · have e : got (2 :: b :: M') = (1, b, 0, (⟨#[]⟩ : ByteArray), strOfNums M', true) := by simp [got, h3]
          rw [e]
          refine ⟨M', ?_, rfl, ?_⟩
          rotate_left
          · show Told (⟨1, b, 0, (⟨#[]⟩ : ByteArray)⟩ : S50)
            exact ⟨chk_plain (.inr (.inl rfl)) 0 (fun _ => by show b = 0 ∨ b = 1; omega) (fun h => absurd rfl h) (fun _ => rfl), wf_of (by decide) (lit_small (by omega)) (by decide) (by decide), by simp⟩
          have : b % 256 = b := by omega
          simp [codeOf, codeV, valOf, this]
    by_cases h3 : t = 3
    · subst h3
      have e : got (3 :: M) = gotInt M := by simp [got]
      rw [e] at hok ⊢
      unfold gotInt at hok ⊢
      cases hr : rawInt M with
      | none => rw [hr] at hok; simp [zeroG] at hok
      | some p =>
        obtain ⟨m, b, k⟩ := p
        rw [hr] at hok
        simp only at hok ⊢
        by_cases hf : fitsRaw m b k = true ∧ m ≤ 9223372036854775807
        · rw [if_pos hf]
          obtain ⟨hw, hs⟩ := raw_sound hM hr hf.1 hf.2
          refine ⟨M.drop (k + 1), ?_, rfl, ?_⟩
          rotate_left
          · show Told (⟨2, intOfRaw m b, 0, (⟨#[]⟩ : ByteArray)⟩ : S50)
            exact ⟨chk_plain (.inr (.inr (.inl rfl))) 0 (fun h => absurd (show (2 : Int) = 1 from h) (by decide)) (fun _ h => absurd rfl h) (fun _ => rfl), wf_of (by decide) hw (by decide) (by decide), by simp⟩
          show (3 : Int) :: M = codeV 2 (intOfRaw m b) 0 (⟨#[]⟩ : ByteArray) ++ M.drop (k + 1)
          have ec : codeV 2 (intOfRaw m b) 0 (⟨#[]⟩ : ByteArray) = 3 :: codeInt (intOfRaw m b) := by simp [codeV]
          rw [ec, List.cons_append, ← hs]
        · rw [if_neg hf] at hok; simp [zeroG] at hok
    by_cases h4 : t = 4
    · subst h4
      have e : got (4 :: M) = gotFloat M := by simp [got]
      rw [e] at hok ⊢
      unfold gotFloat at hok ⊢
      by_cases h : M.length < 8
      · rw [if_pos h] at hok; simp [zeroG] at hok
      · rw [if_neg h] at hok ⊢
        have hp : plainF (floatOf (M.take 8)) = floatOf (M.take 8) := by simpa using hok
        have hl : (M.take 8).length = 8 := by rw [List.length_take]; omega
        refine ⟨M.drop 8, ?_, rfl, ?_⟩
        rotate_left
        · show Told (⟨3, 0, floatOf (M.take 8), (⟨#[]⟩ : ByteArray)⟩ : S50)
          exact ⟨chk_plain (.inr (.inr (.inr rfl))) _ (fun h => absurd (show (3 : Int) = 1 from h) (by decide)) (fun _ _ => rfl) (fun h => absurd rfl h), wf_of (by decide) (by decide) (floatOf_lt (hM.take 8) hl) (by decide), fun _ => hp⟩
        show (4 : Int) :: M = codeV 3 0 (floatOf (M.take 8)) (⟨#[]⟩ : ByteArray) ++ M.drop 8
        have ec : codeV 3 0 (floatOf (M.take 8)) (⟨#[]⟩ : ByteArray) = 4 :: codeBits (plainF (floatOf (M.take 8))) := by simp [codeV]
        rw [ec, hp, floatOf_code (hM.take 8) hl, List.cons_append, List.take_append_drop]
    by_cases h5 : t = 5 ∨ t = 6
    · have e : got (t :: M) = gotText t M := by simp only [got]; rw [if_neg h1, if_neg h2, if_neg h3, if_neg h4, if_pos h5]
      rw [e] at hok ⊢
      unfold gotText at hok ⊢
      cases hto : textOff [] (toB M) with
      | none => rw [hto] at hok; simp at hok
      | some p =>
        obtain ⟨u, r⟩ := p
        rw [hto] at hok
        simp only at hok ⊢
        have hc : chk (t - 1) 0 0 ⟨u.toArray⟩ = 0 := by simpa using hok
        obtain ⟨u', hu, hs⟩ := text_sound (toB M).length (toB M) [] u r (Nat.le_refl _) hto
        simp at hu
        subst hu
        rw [nat_toB hM] at hs
        have hf := chk_fields hc
        refine ⟨r.map fun b => (b.toNat : Int), ?_, ?_, ?_⟩
        rotate_left
        rotate_left
        · show Told (⟨t - 1, 0, 0, ⟨u.toArray⟩⟩ : S50)
          exact ⟨hc, wf_of hf.1 (by decide) (by decide) (Nat.le_trans hf.2.2.2.2.2.2 (by decide)), fun h => by have : t - 1 = 3 := h; omega⟩
        · show t :: M = codeV (t - 1) 0 0 ⟨u.toArray⟩ ++ _
          have ec : codeV (t - 1) 0 0 ⟨u.toArray⟩ = t :: codeText u := by
            rcases h5 with rfl | rfl
            · simp [codeV]
            · simp [codeV]
          rw [ec, List.cons_append, ← hs]
        · show (⟨r.toArray⟩ : ByteArray) = _
          rw [← str_toB, toB_nat]
    · have e : got (t :: M) = zeroG := by simp only [got]; rw [if_neg h1, if_neg h2, if_neg h3, if_neg h4, if_neg h5]
      rw [e] at hok
      simp [zeroG] at hok
theorem got_complete {v : S50} (hv : Told v) {R : List Int} (hT : Tail R) (hR : Bytes R) : got (codeOf v ++ R) = tup v R := by
  obtain ⟨a, b, c, d⟩ := v
  obtain ⟨hok, ⟨_, w1, w2, w3⟩, hp⟩ := hv
  have hf := chk_fields hok
  obtain ⟨ha, f1, f2, f3, f4, f5, f6⟩ := hf
  simp only at ha f1 f2 f3 f4 f5 f6 w1 w2 w3 hp
  by_cases h0 : a = 0
  · subst h0
    obtain rfl := f2 (by decide) (by decide)
    obtain rfl := f3 (by decide)
    obtain rfl := f4 (by decide) (by decide)
    simp [codeOf, codeV, got, tup]
  by_cases h1 : a = 1
  · subst h1
    obtain rfl := f3 (by decide)
    obtain rfl := f4 (by decide) (by decide)
    have hb : b % 256 = b := by rcases f1 rfl with h | h <;> omega
    have hb1 : ¬ b > 1 := by rcases f1 rfl with h | h <;> omega
    simp [codeOf, codeV, hb, got, hb1, tup]
  by_cases h2 : a = 2
  · subst h2
    obtain rfl := f3 (by decide)
    obtain rfl := f4 (by decide) (by decide)
    obtain ⟨m, k, e1, e2, e3, e4, e5⟩ := raw_complete w1 R
    have ec : codeOf ⟨2, b, 0, (⟨#[]⟩ : ByteArray)⟩ = 3 :: codeInt b := by simp [codeOf, codeV]
    rw [ec, List.cons_append]
    have eg : got (3 :: (codeInt b ++ R)) = gotInt (codeInt b ++ R) := by simp [got]
    rw [eg]
    unfold gotInt
    rw [e1]
    simp only
    rw [if_pos ⟨e3, e4⟩, e2]
    have ed : (codeInt b ++ R).drop (k + 1) = R := by rw [← e5]; simp
    rw [ed]
    rfl
  by_cases h3 : a = 3
  · subst h3
    obtain rfl := f2 (by decide) (by decide)
    obtain rfl := f4 (by decide) (by decide)
    have hpc := hp rfl
    have ec : codeOf ⟨3, 0, c, (⟨#[]⟩ : ByteArray)⟩ = 4 :: codeBits c := by simp [codeOf, codeV, hpc]
    rw [ec, List.cons_append]
    have eg : got (4 :: (codeBits c ++ R)) = gotFloat (codeBits c ++ R) := by simp [got]
    rw [eg]
    unfold gotFloat
    have h8 := codeBits_length c
    rw [if_neg (by simp [h8])]
    have e1 : (codeBits c ++ R).take 8 = codeBits c := by rw [List.take_append_of_le_length (by omega), List.take_of_length_le (by omega)]
    have e2 : (codeBits c ++ R).drop 8 = R := by rw [← h8]; simp
    rw [e1, e2, codeBits_float w2, hpc]
    simp [tup]
  have hbc : b = 0 := f2 h1 h2
  have hcc : c = 0 := f3 h3
  subst hbc hcc
  have h45 : a = 4 ∨ a = 5 := by omega
  have ec : codeOf ⟨a, 0, 0, d⟩ = (a + 1) :: codeText d.data.toList := by
    rcases h45 with rfl | rfl <;> simp [codeOf, codeV]
  rw [ec, List.cons_append]
  have eg : got ((a + 1) :: (codeText d.data.toList ++ R)) = gotText (a + 1) (codeText d.data.toList ++ R) := by
    simp only [got]
    rw [if_neg (by omega), if_neg (by omega), if_neg (by omega), if_neg (by omega), if_pos (by omega)]
  rw [eg]
  unfold gotText
  rw [text_complete _ _ _ hT hR]
  simp only [List.nil_append]
  have e1 : a + 1 - 1 = a := by omega
  have e2 : (⟨d.data.toList.toArray⟩ : ByteArray) = d := by cases d; simp
  have hok' : chk a 0 0 d = 0 := hok
  rw [e1, e2, str_toB, hok']
  simp [tup]
theorem codeOf_pos (v : S50) : 1 ≤ (codeOf v).length := by
  obtain ⟨a, l, e, _⟩ := codeOf_head v
  rw [e]; simp
theorem decode_total : ∀ (n : Nat) (L : List Int) (acc : List S50), L.length ≤ n → Bytes L → acc.length + L.length ≤ 2000 →
    ∃ r : List S50 × Int, Ev (fun k => code_Decode.l0 k (strOfNums L) acc) r ∧ (r = ([], 20) ∨ ∃ vs, (∀ v ∈ vs, Told v) ∧ L = flat vs ∧ r = (acc ++ vs, 0))
  | n, [], acc, _, _, _ => by
    refine ⟨(acc, 0), Ev.from_ 1 fun k => ?_, .inr ⟨[], by simp, rfl, by simp⟩⟩
    simp only [code_Decode.l0]
    rw [if_neg (by rw [str_size]; simp)]
  | 0, t :: M, acc, h, _, _ => by simp at h
  | n + 1, t :: M, acc, h, hL, hb => by
    have hg := get_ev (t :: M) hL (by simp) (by simp at hb ⊢; omega)
    have step : ∀ k, code_Decode.l0 (k + 1) (strOfNums (t :: M)) acc = (code_get.f k (strOfNums (t :: M))).bind fun bt499 => (if bt499.2.2.2.2.2 = true then (if acc.length < 3518437208883 then (code_Decode.l0 k bt499.2.2.2.2.1 (acc ++ [(⟨bt499.1, bt499.2.1, bt499.2.2.1, bt499.2.2.2.1⟩ : S50)])) else (none)) else (some (([] : List (S50)), 20))) := by
      intro k
      simp only [code_Decode.l0]
      rw [if_pos (by rw [str_size]; simp only [List.length_cons]; omega)]
    cases hok : (got (t :: M)).2.2.2.2.2 with
    | false => exact ⟨([], 20), Ev.step step (Ev.bind hg (Ev.neg (by rw [hok]; decide) Ev.pure)), .inl rfl⟩
    | true =>
      obtain ⟨R, e1, e2, e3⟩ := got_sound hL (by simp at hb ⊢; omega) hok
      have hpos := codeOf_pos (valOf (got (t :: M)))
      have hlen : (t :: M).length = (codeOf (valOf (got (t :: M)))).length + R.length := by rw [← List.length_append, ← e1]
      have hRb : Bytes R := (Bytes.app (by rw [← e1]; exact hL)).2
      obtain ⟨r, hr, hcase⟩ := decode_total n R (acc ++ [valOf (got (t :: M))]) (by simp at h hlen ⊢; omega) hRb (by simp at hb hlen ⊢; omega)
      refine ⟨r, Ev.step step (Ev.bind hg (Ev.pos hok (Ev.pos (by omega) ?_))), ?_⟩
      · rw [e2]; exact hr
      · rcases hcase with h1 | ⟨vs, h1, h2, h3⟩
        · exact .inl h1
        · refine .inr ⟨valOf (got (t :: M)) :: vs, ?_, ?_, ?_⟩
          · intro v hv
            rcases List.mem_cons.1 hv with rfl | hv
            · exact e3
            · exact h1 v hv
          · rw [flat_cons, ← h2]; exact e1
          · rw [h3]; simp
theorem decode_flat : ∀ (vs acc : List S50), (∀ v ∈ vs, Told v) → acc.length + (flat vs).length ≤ 2000 → Ev (fun k => code_Decode.l0 k (strOfNums (flat vs)) acc) (acc ++ vs, 0)
  | [], acc, _, _ => by
    refine Ev.from_ 1 fun k => ?_
    simp only [code_Decode.l0]
    rw [if_neg (by rw [str_size]; simp [flat])]
    simp
  | v :: vs, acc, hv, hb => by
    have hw : ∀ x ∈ vs, wf50 x := fun x hx => (hv x (by simp [hx])).wf
    have hpos := codeOf_pos v
    rw [flat_cons] at hb ⊢
    simp at hb
    have hbs : Bytes (codeOf v ++ flat vs) := by
      intro x hx
      rcases List.mem_append.1 hx with h | h
      · exact codeOf_bytes (hv v (by simp)).wf x h
      · exact flat_bytes hw x h
    have hg := get_ev (codeOf v ++ flat vs) hbs (by intro e; rw [List.append_eq_nil_iff] at e; rw [e.1] at hpos; simp at hpos) (by simp; omega)
    rw [got_complete (hv v (by simp)) (flat_tail vs) (flat_bytes hw)] at hg
    have ih := decode_flat vs (acc ++ [v]) (fun x hx => hv x (by simp [hx])) (by simp; omega)
    refine Ev.step (g := fun k => (code_get.f k (strOfNums (codeOf v ++ flat vs))).bind fun bt499 => (if bt499.2.2.2.2.2 = true then (if acc.length < 3518437208883 then (code_Decode.l0 k bt499.2.2.2.2.1 (acc ++ [(⟨bt499.1, bt499.2.1, bt499.2.2.1, bt499.2.2.2.1⟩ : S50)])) else (none)) else (some (([] : List (S50)), 20)))) (fun k => ?_) ?_
    · simp only [code_Decode.l0]
      rw [if_pos (by rw [str_size]; simp; omega)]
    · refine Ev.bind hg (Ev.pos rfl (Ev.pos (by omega) ?_))
      simpa [tup] using ih
end Go.Proofs.YtpiifdbicibelaaDoor.Pure
end
section
namespace Go.Proofs.YtpiifdbicibelaaDoor.Pure
open Go.RowKit Go.Proofs Go.Proofs.YtpiifdbicibelaaDoorW.PrintWords Go.Proofs.YtpiifdbicibelaaDoorW.PrintLast Go.Proofs.YtpiifdbicibelaaDoorW.PrintMore Go.Proofs.YtpiifdbicibelaaDoor.PA Go.Proofs.YtpiifdbicibelaaDoor.OpenK
set_option linter.unusedVariables false
set_option linter.unusedSimpArgs false
abbrev G5 := Int × Int × Nat × ByteArray × Int
def bkInt (M : List Int) : G5 := match rawInt M with
  | none => (2, 0, 0, (⟨#[]⟩ : ByteArray), 0)
  | some (m, b, k) => if 9223372036854775808 ≤ m then (2, 0, 0, (⟨#[]⟩ : ByteArray), 0) else (2, intOfRaw m b, 0, (⟨#[]⟩ : ByteArray), ((2 + k : Nat) : Int))
def bkText (t : Int) (M : List Int) : G5 := match textOff [] (toB M) with
  | none => (t - 1, 0, 0, (⟨#[]⟩ : ByteArray), 0)
  | some (u, r) => (t - 1, 0, 0, ⟨u.toArray⟩, (1 + M.length : Int) - r.length)
def bk : List Int → G5
  | [] => (0, 0, 0, (⟨#[]⟩ : ByteArray), 0)
  | t :: M =>
    if t = 1 then (0, 0, 0, (⟨#[]⟩ : ByteArray), 1)
    else if t = 2 then (match M with | [] => (1, 0, 0, (⟨#[]⟩ : ByteArray), 0) | b :: _ => if b < 2 then (1, b, 0, (⟨#[]⟩ : ByteArray), 2) else (1, 0, 0, (⟨#[]⟩ : ByteArray), 0))
    else if t = 3 then bkInt M
    else if t = 4 then (if M.length < 8 then (3, 0, 0, (⟨#[]⟩ : ByteArray), 0) else (3, 0, floatOf (M.take 8), (⟨#[]⟩ : ByteArray), 9))
    else if t = 5 ∨ t = 6 then bkText t M
    else (t - 1, 0, 0, (⟨#[]⟩ : ByteArray), 0)
theorem str_map (u : List UInt8) : strOfNums (u.map fun b => (b.toNat : Int)) = ⟨u.toArray⟩ := by rw [← str_toB, toB_nat]
theorem ofNat_int {a : Int} (h : 0 ≤ a ∧ a ≤ 255) : (((UInt8.ofNat a.toNat).toNat : Nat) : Int) = a := by rw [ofNat_toNat h]; omega
theorem wrap_succ (i : Nat) (h : i < 1000000000) : wrap64 ((i : Int) + 1) = ((i + 1 : Nat) : Int) := by rw [wrap64_id (by omega) (by omega)]; omega
theorem bk_step (k : Nat) (s : ByteArray) (acc : List Int) (i x j : Int) (a b : Int) (c : Nat) (d : ByteArray) (h1 : i < (s.size : Int)) (h0 : 0 ≤ i) (hb : bt s i = x) (hx : ¬ x = 0) (hal : acc.length < 140737488355328) (hw : wrap64 (i + 1) = j) :
    vellumref02_back.l0 (k + 1) s acc i a b c d = vellumref02_back.l0 k s (acc ++ [x]) j a b c d := by
  simp only [vellumref02_back.l0, hb, hw]
  rw [if_pos h1, if_pos h0, if_neg hx, if_pos hal]
set_option maxHeartbeats 2000000 in
theorem bk_text_ev (L : List Int) (hL : Bytes L) (hlen : L.length ≤ 1000000) (a b : Int) (c : Nat) (d : ByteArray) : ∀ (n i : Nat) (acc : List UInt8) (M : List Int), M.length ≤ n → L.drop i = M → i ≤ L.length → acc.length ≤ i →
    Ev (fun k => vellumref02_back.l0 k (strOfNums L) (acc.map fun b => (b.toNat : Int)) (i : Int) a b c d) (match textOff acc (toB M) with | none => (a, b, c, d, 0) | some (u, r) => (a, b, c, (⟨u.toArray⟩ : ByteArray), (L.length : Int) - r.length))
  | n, i, acc, [], _, hd, hi, hacc => by
    have h : L.length ≤ i := List.drop_eq_nil_iff.1 hd
    refine Ev.from_ 1 fun k => ?_
    simp only [vellumref02_back.l0]
    rw [if_neg (by rw [str_size]; omega)]
    simp [toB, textOff]
  | 0, i, acc, b0 :: M, hn, _, _, _ => by simp at hn
  | n + 1, i, acc, b0 :: M, hn, hd, hi, hacc => by
    have hlt : i < L.length := by
      rcases Nat.lt_or_ge i L.length with h | h
      · exact h
      · rw [List.drop_of_length_le h] at hd; cases hd
    have hal : (acc.map fun (b : UInt8) => (b.toNat : Int)).length < 140737488355328 := by rw [List.length_map]; omega
    have i1 : (i : Int) < ((strOfNums L).size : Int) := by rw [str_size]; omega
    have i0 : (0 : Int) ≤ (i : Int) := by omega
    have hget : L[i] = b0 := by
      have := List.drop_eq_getElem_cons hlt
      rw [hd] at this
      injection this with h _
      exact h.symm
    have hd1 : L.drop (i + 1) = M := by
      have := List.drop_eq_getElem_cons hlt
      rw [hd] at this
      injection this with _ h
      exact h.symm
    have hlM : i + 1 + M.length = L.length := by
      have := congrArg List.length hd1
      rw [List.length_drop] at this
      omega
    have hb0 := hL b0 (by rw [← hget]; exact List.getElem_mem hlt)
    have hbt : bt (strOfNums L) (i : Int) = b0 := by rw [str_bt hL i hlt]; exact hget
    have hw := fun _ : True => wrap_succ i (by omega)
    have hw2 := fun _ : True => wrap_succ (i + 1) (by omega)
    have hsz : ((strOfNums L).size : Int) = (L.length : Int) := by rw [str_size]
    by_cases h0 : b0 = 0
    · subst h0
      cases M with
      | nil =>
        refine Ev.from_ 1 fun k => ?_
        simp only [vellumref02_back.l0, hbt, hw trivial, hsz]
        simp at hlM
        rw [if_pos (by omega), if_pos (by omega), if_pos trivial, if_pos (by omega), str_map]
        have e : textOff acc (toB [0]) = some (acc, []) := by
          show textOff acc [0] = _
          exact textOff_zero (fun l' h => by cases h)
        rw [e]
        simp
        omega
      | cons b1 M2 =>
        simp at hlM
        have hlt1 : i + 1 < L.length := by omega
        have hget1 : L[i + 1] = b1 := by
          have := List.drop_eq_getElem_cons hlt1
          rw [hd1] at this
          injection this with h _
          exact h.symm
        have hd2 : L.drop (i + 2) = M2 := by
          have := List.drop_eq_getElem_cons hlt1
          rw [hd1] at this
          injection this with _ h
          exact h.symm
        have hb1 := hL b1 (by rw [← hget1]; exact List.getElem_mem hlt1)
        have hbt1 : bt (strOfNums L) ((i + 1 : Nat) : Int) = b1 := by rw [str_bt hL (i + 1) hlt1]; exact hget1
        by_cases h255 : b1 = 255
        · subst h255
          have e : textOff acc (toB (0 :: 255 :: M2)) = textOff (acc ++ [0]) (toB M2) := by
            show textOff acc (0 :: 255 :: toB M2) = _
            rw [textOff]
          rw [e]
          refine Ev.step (g := fun k => vellumref02_back.l0 k (strOfNums L) ((acc ++ [(0 : UInt8)]).map fun (b : UInt8) => (b.toNat : Int)) ((i + 2 : Nat) : Int) a b c d) (fun k => ?_) (bk_text_ev L hL hlen a b c d n (i + 2) (acc ++ [(0 : UInt8)]) M2 (by simp at hn; omega) hd2 (by omega) (by simp; omega))
          simp only [vellumref02_back.l0, hbt, hw trivial, hsz, hbt1, hw2 trivial]
          rw [if_pos (by omega), if_pos (by omega), if_pos trivial, if_neg (by omega), if_pos (by omega), if_pos (by omega), if_pos trivial, if_pos (by simp; omega), List.map_append]
          rfl
        · have e : textOff acc (toB (0 :: b1 :: M2)) = some (acc, toB (b1 :: M2)) := by
            show textOff acc (0 :: toB (b1 :: M2)) = _
            refine textOff_zero (fun l' h => ?_)
            simp only [toB, List.map_cons, List.cons.injEq] at h
            have e2 := congrArg UInt8.toNat h.1
            rw [ofNat_toNat hb1] at e2
            have : (255 : UInt8).toNat = 255 := rfl
            omega
          rw [e]
          refine Ev.from_ 1 fun k => ?_
          simp only [vellumref02_back.l0, hbt, hw trivial, hsz, hbt1]
          rw [if_pos (by omega), if_pos (by omega), if_pos trivial, if_neg (by omega), if_pos (by omega), if_pos (by omega), if_neg h255, str_map]
          simp [toB]
          omega
    · have hne : UInt8.ofNat b0.toNat ≠ 0 := by
        intro h
        have e2 := congrArg UInt8.toNat h
        rw [ofNat_toNat hb0] at e2
        have : (0 : UInt8).toNat = 0 := rfl
        omega
      have e : textOff acc (toB (b0 :: M)) = textOff (acc ++ [UInt8.ofNat b0.toNat]) (toB M) := by
        show textOff acc (UInt8.ofNat b0.toNat :: toB M) = _
        exact textOff_ne hne
      rw [e]
      clear e hne
      refine Ev.step (g := fun k => vellumref02_back.l0 k (strOfNums L) ((acc ++ [UInt8.ofNat b0.toNat]).map fun (b : UInt8) => (b.toNat : Int)) ((i + 1 : Nat) : Int) a b c d) (fun k => ?_) (bk_text_ev L hL hlen a b c d n (i + 1) (acc ++ [UInt8.ofNat b0.toNat]) M (Nat.le_of_succ_le_succ hn) hd1 hlt (by rw [List.length_append]; exact Nat.succ_le_succ hacc))
      rw [bk_step k (strOfNums L) _ (i : Int) b0 ((i + 1 : Nat) : Int) a b c d i1 i0 hbt h0 hal (hw trivial)]
      have : (((UInt8.ofNat b0.toNat).toNat : Nat) : Int) = b0 := ofNat_int hb0
      simp only [List.map_append, List.map_cons, List.map_nil, this]
theorem back_int_ev (h : Int) (M : List Int) (hL : Bytes (3 :: h :: M)) (hlen : M.length ≤ 1000000) : Ev (fun k => vellumref02_back.j1 k (strOfNums (3 :: h :: M)) true 2 0 0 (⟨#[]⟩ : ByteArray)) (bkInt (h :: M)) := by
  have hh := hL h (by simp)
  have hM : Bytes M := hL.tail.tail
  have hsz : ((strOfNums (3 :: h :: M)).size : Int) = 2 + (M.length : Int) := by rw [str_size]; simp only [List.length_cons]; omega
  have hbt : bt (strOfNums (3 :: h :: M)) 1 = h := str_bt hL 1 (by simp)
  have z64 : ∀ {x : Int}, -1000 ≤ x → x ≤ 10000000 → wrap64 x = x := fun h1 h2 => wrap64_id (by omega) (by omega)
  have e1 : wrap64 (wrap64 h - 128) = h - 128 := by rw [z64 (x := h) (by omega) (by omega), z64 (by omega) (by omega)]
  have e2 : wrap64 (-(h - 128)) = -(h - 128) := z64 (by omega) (by omega)
  -- the rest, from the number of bytes on
  have rest : ∀ k : Nat, (h - 128).natAbs = k → Ev (fun q => vellumref02_back.j2 q (strOfNums (3 :: h :: M)) (h - 128) (k : Int) 2 0 0 (⟨#[]⟩ : ByteArray)) (bkInt (h :: M)) := by
    intro k hk
    unfold bkInt
    simp only [rawInt, hk]
    by_cases h8 : 8 < k
    · rw [if_pos (.inl h8)]
      refine Ev.from_ 2 fun q => ?_
      simp only [vellumref02_back.j2, vellumref02_back.j3]
      rw [if_pos (by omega), if_pos trivial]
    have e3' : True → wrap64 (2 + (k : Int)) = ((2 + k : Nat) : Int) := fun _ => by rw [z64 (by omega) (by omega)]; omega
    by_cases hlen2 : M.length < k
    · rw [if_pos (.inr hlen2)]
      refine Ev.from_ 2 fun q => ?_
      simp only [vellumref02_back.j2, vellumref02_back.j3, e3' trivial, hsz]
      rw [if_neg (by omega), if_pos (decide_eq_true (by omega))]
    rw [if_neg (by omega)]
    have hl : (M.take k).length = k := by rw [List.length_take]; omega
    have hn := num_range (hM.take k)
    rw [hl] at hn
    have hpk : (256 : Int) ^ k ≤ 18446744073709551616 := by
      have h1 : (256 : Nat) ^ k ≤ 256 ^ 8 := Nat.pow_le_pow_right (by decide) (by omega)
      have h2 : ((256 ^ k : Nat) : Int) = (256 : Int) ^ k := by simp
      omega
    have hx : (strOfNums (3 :: h :: M)).extract 2 (((2 + k : Nat) : Int)).toNat = strOfNums (M.take k) := by
      rw [str_take]
      congr 1
      simp
      congr 1
      omega
    have hnum := number_ref_ev (M.take k) (hM.take k) (by omega)
    generalize num (M.take k) = t at hn hnum ⊢
    refine Ev.step (g := fun q => vellumref02_back.j3 q (strOfNums (3 :: h :: M)) (h - 128) (k : Int) false 2 0 0 (⟨#[]⟩ : ByteArray)) (fun q => ?_) ?_
    · simp only [vellumref02_back.j2, e3' trivial, hsz]
      rw [if_neg (by omega), decide_eq_false (by omega)]
    refine Ev.step (g := fun q => (vellumref02_number.f q (strOfNums (M.take k))).bind fun t511 => (if h - 128 < 0 then (if 0 ≤ (IntKind.u64.wrap (wrap64 (8 * (k : Int)))) then (vellumref02_back.j4 q (h - 128) (k : Int) (Go.bits .and .u64 (not64 t511) (IntKind.u64.wrap ((shl .u64 1 (IntKind.u64.wrap (wrap64 (8 * (k : Int))))) - 1))) 2 0 0 (⟨#[]⟩ : ByteArray)) else (none)) else (vellumref02_back.j4 q (h - 128) (k : Int) t511 2 0 0 (⟨#[]⟩ : ByteArray)))) (fun q => ?_) ?_
    · simp only [vellumref02_back.j3, e3' trivial, hsz, hx]
      rw [if_neg (by decide), if_pos (by omega), if_pos (by omega)]
    refine Ev.bind hnum ?_
    rw [show wrap64 (8 * (k : Int)) = 8 * (k : Int) from z64 (by omega) (by omega)]
    by_cases hneg : h < 128
    · have hk1 : 1 ≤ k := by omega
      refine Ev.pos (by omega) (Ev.pos (by rw [u64_wrap_id (by omega) (by omega)]; omega) ?_)
      rw [and_mask t k hn.1 hn.2 hk1 (by omega), if_pos hneg, decide_eq_true hneg]
      generalize hmm : (256 : Int) ^ k - 1 - t = m
      refine Ev.from_ 1 fun q => ?_
      simp only [vellumref02_back.j4, e3' trivial]
      by_cases hbig : 9223372036854775808 ≤ m
      · rw [if_pos (by omega), if_pos hbig]
      · rw [if_neg (by omega), if_neg hbig, if_pos (by omega), wrap64_id (n := m) (by omega) (by omega), wrap64_id (n := -m) (by omega) (by omega), wrap64_id (by omega) (by omega)]
        rfl
    · refine Ev.neg (by omega) ?_
      rw [if_neg hneg, decide_eq_false hneg]
      refine Ev.from_ 1 fun q => ?_
      simp only [vellumref02_back.j4, e3' trivial]
      by_cases hbig : 9223372036854775808 ≤ t
      · rw [if_pos (by omega), if_pos hbig]
      · rw [if_neg (by omega), if_neg hbig, if_neg (by omega), wrap64_id (n := t) (by omega) (by omega)]
        rfl
  by_cases hneg : h < 128
  · obtain ⟨k, hk⟩ : ∃ k : Nat, (k : Int) = -(h - 128) := ⟨(128 - h).toNat, by omega⟩
    refine Ev.step (g := fun q => vellumref02_back.j2 q (strOfNums (3 :: h :: M)) (h - 128) (k : Int) 2 0 0 (⟨#[]⟩ : ByteArray)) (fun q => ?_) (rest k (by omega))
    simp only [vellumref02_back.j1, hbt, e1, e2, hsz, hk]
    rw [if_pos trivial, if_pos (by omega), if_pos (by omega)]
  · obtain ⟨k, hk⟩ : ∃ k : Nat, (k : Int) = h - 128 := ⟨(h - 128).toNat, by omega⟩
    refine Ev.step (g := fun q => vellumref02_back.j2 q (strOfNums (3 :: h :: M)) (h - 128) (k : Int) 2 0 0 (⟨#[]⟩ : ByteArray)) (fun q => ?_) (rest k (by omega))
    simp only [vellumref02_back.j1, hbt, e1, hsz]
    rw [if_pos trivial, if_pos (by omega), if_neg (by omega), hk]
theorem back_ev (L : List Int) (hL : Bytes L) (hne : L ≠ []) (hlen : L.length ≤ 1000000) : Ev (fun k => vellumref02_back.f k (strOfNums L)) (bk L) := by
  cases L with
  | nil => exact absurd rfl hne
  | cons t M =>
    have hM := hL.tail
    have ht := hL t (by simp)
    have hb0 : bt (strOfNums (t :: M)) 0 = t := str_bt hL 0 (by simp)
    have hsz : ((strOfNums (t :: M)).size : Int) = 1 + (M.length : Int) := by rw [str_size]; simp only [List.length_cons]; omega
    have hw : wrap64 (wrap64 t - 1) = t - 1 := by rw [wrap64_id (n := t) (by omega) (by omega), wrap64_id (by omega) (by omega)]
    have hbt : ∀ b M', M = b :: M' → bt (strOfNums (t :: M)) 1 = b := by
      intro b M' e; subst e; exact str_bt hL 1 (by simp)
    simp only [vellumref02_back.f, hb0, hw, hsz]
    refine Ev.pos (by omega) ?_
    simp only [bk]
    by_cases h1 : t = 1
    · rw [if_pos h1]
      refine Ev.pos (by omega) ?_
      subst h1
      exact Ev.pure
    rw [if_neg h1]
    refine Ev.neg (by omega) ?_
    by_cases h2 : t = 2
    · rw [if_pos h2]
      refine Ev.pos (by omega) ?_
      subst h2
      cases M with
      | nil =>
        refine Ev.neg (by simp) (Ev.from_ 4 fun k => ?_)
        simp only [vellumref02_back.j0, vellumref02_back.j1, vellumref02_back.j5, vellumref02_back.j6]
        simp
      | cons b M' =>
        have hbb := hbt b M' rfl
        simp only [hbb, List.length_cons]
        refine Ev.pos (by omega) (Ev.pos (by omega) ?_)
        have hb := hM b (by simp)
        by_cases h3 : b < 2
        · rw [if_pos h3, decide_eq_true h3]
          refine Ev.from_ 1 fun k => ?_
          simp only [vellumref02_back.j0, hbb]
          rw [if_pos trivial, if_pos (by rw [hsz]; simp only [List.length_cons]; omega), wrap64_id (by omega) (by omega)]
          rfl
        · rw [if_neg h3, decide_eq_false h3]
          refine Ev.from_ 4 fun k => ?_
          simp only [vellumref02_back.j0, vellumref02_back.j1, vellumref02_back.j5, vellumref02_back.j6]
          simp
    rw [if_neg h2]
    refine Ev.neg (by omega) ?_
    by_cases h3 : t = 3
    · rw [if_pos h3]
      subst h3
      cases M with
      | nil =>
        refine Ev.from_ 4 fun k => ?_
        simp only [vellumref02_back.j0, vellumref02_back.j1, vellumref02_back.j5, vellumref02_back.j6, hsz]
        simp [bkInt, rawInt]
      | cons h M' =>
        refine Ev.step (g := fun k => vellumref02_back.j1 k (strOfNums (3 :: h :: M')) true 2 0 0 (⟨#[]⟩ : ByteArray)) (fun k => ?_) (back_int_ev h M' hL (by simp at hlen; omega))
        simp only [vellumref02_back.j0, hsz]
        rw [if_neg (by decide), if_pos (by decide), decide_eq_true (by simp only [List.length_cons]; omega)]
        rfl
    rw [if_neg h3]
    by_cases h4 : t = 4
    · rw [if_pos h4]
      subst h4
      by_cases h : M.length < 8
      · rw [if_pos h]
        refine Ev.from_ 4 fun k => ?_
        simp only [vellumref02_back.j0, vellumref02_back.j1, vellumref02_back.j5, vellumref02_back.j6, hsz]
        rw [if_neg (by decide), if_neg (by decide), if_neg (by decide), if_pos (by decide), if_neg (by simp; omega), if_neg (by decide), if_neg (by decide)]
        rfl
      · rw [if_neg h]
        have hl : (M.take 8).length = 8 := by rw [List.length_take]; omega
        have hr := num_range (hM.take 8)
        rw [hl] at hr
        have e : (256 : Int) ^ 8 = 18446744073709551616 := by decide
        have hx : (strOfNums (4 :: M)).extract 1 9 = strOfNums (M.take 8) := by rw [str_take]; rfl
        refine Ev.step (g := fun k => vellumref02_back.j1 k (strOfNums (4 :: M)) false 3 0 0 (⟨#[]⟩ : ByteArray)) (fun k => ?_) (Ev.step (g := fun k => vellumref02_back.j5 k (strOfNums (4 :: M)) true 3 0 0 (⟨#[]⟩ : ByteArray)) (fun k => ?_) (Ev.step (g := fun k => (vellumref02_number.f k (strOfNums (M.take 8))).bind fun t512 => (if (t512 / 9223372036854775808) > 0 then (some ((3 : Int), (0 : Int), (Go.bits .xor .u64 t512 9223372036854775808).toNat, (⟨#[]⟩ : ByteArray), (9 : Int))) else (some (3, 0, (not64 t512).toNat, (⟨#[]⟩ : ByteArray), 9)))) (fun k => ?_) ?_))
        · simp only [vellumref02_back.j0]
          rw [if_neg (by decide), if_neg (by decide)]
          rfl
        · simp only [vellumref02_back.j1, hsz]
          rw [if_neg (by decide), if_pos (by decide), decide_eq_true (by omega)]
        · simp only [vellumref02_back.j5, hsz, hx]
          rw [if_pos trivial, if_pos (by decide), if_pos (by omega)]
        · refine Ev.bind (number_ref_ev (M.take 8) (hM.take 8) (by omega)) ?_
          unfold floatOf
          by_cases hb : 9223372036854775808 ≤ num (M.take 8)
          · rw [if_pos hb, xor_down _ hb (by omega)]
            exact Ev.pos (by omega) Ev.pure
          · rw [if_neg hb, not64_eq _ (by omega) (by omega)]
            exact Ev.neg (by omega) Ev.pure
    rw [if_neg h4]
    by_cases h56 : t = 5 ∨ t = 6
    · rw [if_pos h56]
      have hgo := bk_text_ev (t :: M) hL hlen (t - 1) 0 0 (⟨#[]⟩ : ByteArray) M.length 1 [] M (Nat.le_refl _) rfl (by simp) (by simp)
      refine Ev.step (g := fun k => vellumref02_back.j1 k (strOfNums (t :: M)) false (t - 1) 0 0 (⟨#[]⟩ : ByteArray)) (fun k => ?_) (Ev.step (g := fun k => vellumref02_back.j5 k (strOfNums (t :: M)) false (t - 1) 0 0 (⟨#[]⟩ : ByteArray)) (fun k => ?_) (Ev.step (g := fun k => vellumref02_back.j6 k (strOfNums (t :: M)) true (t - 1) 0 0 (⟨#[]⟩ : ByteArray)) (fun k => ?_) (Ev.step (g := fun k => vellumref02_back.l0 k (strOfNums (t :: M)) ([] : List Int) 1 (t - 1) 0 0 (⟨#[]⟩ : ByteArray)) (fun k => ?_) ?_)))
      · simp only [vellumref02_back.j0]
        rw [if_neg (by decide), if_neg (by omega)]
      · simp only [vellumref02_back.j1]
        rw [if_neg (by decide), if_neg (by omega)]
      · simp only [vellumref02_back.j5]
        rw [if_neg (by decide)]
        rcases h56 with rfl | rfl
        · rw [if_pos (by decide)]
        · rw [if_neg (by decide)]; rfl
      · simp only [vellumref02_back.j6]
        rw [if_pos trivial]
      · have e : bkText t M = (match textOff [] (toB M) with | none => (t - 1, 0, 0, (⟨#[]⟩ : ByteArray), 0) | some (u, r) => (t - 1, 0, 0, (⟨u.toArray⟩ : ByteArray), ((t :: M).length : Int) - r.length)) := by
          unfold bkText
          cases textOff [] (toB M) with
          | none => rfl
          | some p => simp only [List.length_cons]; congr 4; omega
        rw [e]
        exact hgo
    · rw [if_neg h56]
      refine Ev.from_ 4 fun k => ?_
      simp only [vellumref02_back.j0, vellumref02_back.j1, vellumref02_back.j5, vellumref02_back.j6]
      have b5 : (t - 1 == 5) = false := by rw [beq_eq_false_iff_ne]; omega
      rw [if_neg (by decide), if_neg (by omega), if_neg (by decide), if_neg (by omega), if_neg (by decide), if_neg (by omega), b5, if_neg (by decide)]
end Go.Proofs.YtpiifdbicibelaaDoor.Pure
end
section
namespace Go.Proofs.YtpiifdbicibelaaDoor.PA
open Go.RowKit Go.Proofs.YtpiifdbicibelaaDoorW.PrintWords Go.Proofs.YtpiifdbicibelaaDoorW.PrintLast Go.Proofs.YtpiifdbicibelaaDoorW.PrintMore
attribute [local go_sem] max2_int min2_int max_two min_two max_three min_three max_four min_four   -- for this text's walks alone
set_option linter.unusedVariables false
set_option linter.unusedSimpArgs false
def vellumref02_Decode.l0 : Nat → ByteArray → List (S50) → Int → Option ((List (S50)) × Int)
 | 0, _, _, _ => none
 | k + 1, x0, x4, x5 => if x5 < (x0.size : Int) then (if 0 ≤ x5 then (if x5 ≤ (x0.size : Int) then ((vellumref02_back.f k (x0.extract (x5 : Int).toNat x0.size)).bind fun bt519 => (if bt519.2.2.2.2 = 0 then (some (([] : List (S50)), 20)) else (if x4.length < 3518437208883 then (vellumref02_Decode.l0 k x0 (x4 ++ [(⟨bt519.1, bt519.2.1, bt519.2.2.1, bt519.2.2.2.1⟩ : S50)]) (wrap64 (x5 + bt519.2.2.2.2))) else (none)))) else (none)) else (none)) else ((vellumref02_Encode.f k x4).bind fun bt528 => (if bt528.2 = 0 then (if bt528.1.toList = x0.toList then (some (x4, 0)) else (some (([] : List (S50)), 20))) else (some (([] : List (S50)), 20))))
def vellumref02_Decode.f (k : Nat) (a0 : ByteArray) : Option ((List (S50)) × Int) := if (a0.size : Int) > 1024 then (some (([] : List (S50)), 3)) else (vellumref02_Decode.l0 k a0 ([] : List (S50)) 0)
set_option maxHeartbeats 8000000 in
set_option maxRecDepth 100000 in
theorem vellumref02_Decode.calls (k : Nat) (a0 : ByteArray) (r1 : List (S50)) (r2 : Int) (w : World) (hG : Glob w) (h : vellumref02_Decode.f k a0 = some (r1, r2)) :
  Calls Tryd.prog 44 #[.string a0] w fun e w' => ∃ v0_ : Value, e = .returned (.tuple #[v0_, .int .i64 r2]) ∧ Kd.R k50 50 w' w.heap.size (fun _ => True) v0_ r1 ∧ Below w.heap.size w w' := by
 have hu50 := Tryd.underlying50
 have HG := Aside0.mk hG
 clear hG
 have HB := Aside0.mk (Below.refl w.heap.size w)
 have H : (if (a0.size : Int) > 1024 then (some (([] : List (S50)), 3)) else (vellumref02_Decode.l0 k a0 ([] : List (S50)) 0)) = some (r1, r2) := h
 clear h
 by_cases c2 : (a0.size : Int) > 1024
 ·rw [if_pos c2] at H
  have c2b0 : decide (1024 < (a0.size : Int)) = true := decide_eq_true c2
  have c2b1 : decide (1024 < a0.size) = true := decide_eq_true (by omega)
  clear c2
  simp only [Option.some.injEq, Prod.mk.injEq] at H
  obtain ⟨rfl, rfl⟩ := H
  go_enter Tryd.func44, Tryd.ntmps44
  go_wp2
  go_ret2
  exact ⟨_, by first | rfl | (simp [errW_none, errW_some] <;> rfl) | (simp [*, errW_none, errW_some] <;> rfl), by first | exact Kd.R_nil _ _ _ _ _ | exact Kd.N_nil _ _ _ _ _ | exact Kd.V_nil _ _ _ _ _ | exact Kd.Q_nil _ _ _ _ _ | exact Kd.S_nil _ _ _ _ _, by repeat (first | (with_reducible first | exact HB.out | apply below_alloc | apply pw_below_drewN | apply below_drew1) | exact HB.out)⟩
 ·rw [if_neg c2] at H
  have c2b0 : decide (1024 < (a0.size : Int)) = false := decide_eq_false c2
  have c2b1 : decide (1024 < a0.size) = false := decide_eq_false (by omega)
  clear c2
  have H' := Aside0.mk H
  clear H
  go_enter Tryd.func44, Tryd.ntmps44
  go_wp2
  go_loopg [4, 5] k (fun kq v4 v5 w' => ∃ (x4_1 : List (S50)) (x5_1 : Int), v5 = .int .i64 x5_1 ∧ Aside0 (vellumref02_Decode.l0 kq a0 x4_1 x5_1 = some (r1, r2)) ∧ Aside0 (kq ≤ k) ∧ Aside0 (Kd.R k50 50 w' w.heap.size (fun _ => True) v4 x4_1) ∧ Aside0 (Below w.heap.size w w'))
  case atStart => exact ⟨(([] : List (S50))), (0), (by first | rfl | (simp; done) | (simp [*]; done) | (simp [bool_ne_nil]; done) | (simp; exact bool_ne_nil _)), H', ⟨Nat.le_refl _⟩, ⟨by first | exact Kd.R_nil _ _ _ _ _ | exact Kd.N_nil _ _ _ _ _ | exact Kd.V_nil _ _ _ _ _ | exact Kd.Q_nil _ _ _ _ _ | exact Kd.S_nil _ _ _ _ _⟩, ⟨by repeat (first | (with_reducible first | exact HB.out | apply below_alloc | apply pw_below_drewN | apply below_drew1) | exact HB.out)⟩⟩
  case round =>
   clear H'
   (try clear c2); (try clear c2b0); (try clear c2b1); (try clear p2)
   obtain ⟨x4_1, x5_1, rfl, HA, HK1, HO_4, HB⟩ := hrel
   cases gk with
   | zero => exact absurd HA.out (by simp [vellumref02_Decode.l0])
   | succ k1 =>
    have H := HA.out
    clear HA
    simp only [vellumref02_Decode.l0] at H
    by_cases c3 : x5_1 < (a0.size : Int)
    ·rw [if_pos c3] at H
     have c3b0 : decide (x5_1 < (a0.size : Int)) = true := decide_eq_true c3
     clear c3
     by_cases c4 : 0 ≤ x5_1
     ·rw [if_pos c4] at H
      have c4b0 := eq_true c4
      have c4b1 : decide (0 ≤ x5_1) = true := decide_eq_true c4
      clear c4
      by_cases c5 : x5_1 ≤ (a0.size : Int)
      ·rw [if_pos c5] at H
       have c5b0 := eq_true c5
       have c5b1 : decide (x5_1 ≤ (a0.size : Int)) = true := decide_eq_true c5
       clear c5
       replace H := Option.bind_eq_some_iff.mp H
       obtain ⟨⟨t519, t520, t521, t522, t523⟩, A60, H⟩ := H
       replace H : (if t523 = 0 then (some (([] : List (S50)), 20)) else (if x4_1.length < 3518437208883 then (vellumref02_Decode.l0 k1 a0 (x4_1 ++ [(⟨t519, t520, t521, t522⟩ : S50)]) (wrap64 (x5_1 + t523))) else (none))) = some (r1, r2) := H
       have A6 := Aside0.mk A60
       clear A60
       by_cases c7 : t523 = 0
       ·rw [if_pos c7] at H
        have c7b0 : (t523 == 0) = true := beq_iff_eq.mpr c7
        have c7b1 : (t523 != 0) = false := bne_eq_false_iff_eq.mpr c7
        clear c7
        simp only [Option.some.injEq, Prod.mk.injEq] at H
        obtain ⟨rfl, rfl⟩ := H
        go_wp2_with (first | ((with_reducible refine gate_callee (f := 73) rfl ?_); refine goesL_ (some 21) rfl rfl Tryd.func73 (by kernel_rfl) rfl #[.string (a0.extract (x5_1 : Int).toNat a0.size)] rfl (by (try simp only [List.map_toArray, List.map_cons, List.map_nil]); first | done | rfl | (simp only [List.length_drop, List.length_take]; rfl)) ?_; (with_reducible refine (vellumref02_back.calls k1 (a0.extract (x5_1 : Int).toNat a0.size) t519 t520 t521 t522 t523 _ A6.out).mono ?_); rintro e w8 ⟨rfl, hb⟩; refine ⟨_, rfl, ?_⟩; have n0_ := Aside0.mk (Kd.R_below (by (with_reducible repeat (first | apply Kd.R_alloc | apply Kd.R_drewN | apply Kd.R_drew)); exact HO_4.out) hb); have n1_ := Aside0.mk (below_step (by repeat (first | (with_reducible first | exact HB.out | apply below_alloc | apply pw_below_drewN | apply below_drew1) | exact HB.out)) hb); clear HO_4; clear HB; have HO_4 := n0_; have HB := n1_; clear n0_ n1_; (try clear hb); (try clear hb2); (try clear hk); (try clear hi)) | ((with_reducible refine gate_dst (N := 6) rfl ?_); refine box_event ?hg (N := 6) ?hd (cs := #[.int .i64 0, .int .i64 0, .float .f64 0, .string (⟨#[]⟩ : ByteArray)]) (t := 50) ?hr ?_; (case hd => rfl); (case hg => rfl); (case hr => first | (go_simp; done) | (go_simp; rfl)); intro gb524 hg w9 hbox hb; have n0_ := Aside0.mk (Kd.R_below (Kd.R_elderB (by (with_reducible repeat (first | apply Kd.R_alloc | apply Kd.R_drewN | apply Kd.R_drew)); exact HO_4.out) gb524 (Nat.le_of_eq hg.symm)) hb); have n1_ := Aside0.mk (below_step (by repeat (first | (with_reducible first | exact HB.out | apply below_alloc | apply pw_below_drewN | apply below_drew1) | exact HB.out)) hb); have n2_ := Aside0.mk (hbox); have n3_ := Aside0.mk ((by rw [hg]; exact (below_size (by repeat (first | (with_reducible first | exact HB.out | apply below_alloc | apply pw_below_drewN | apply below_drew1) | exact HB.out))) : w.heap.size ≤ gb524)); have n4_ := n3_; clear HO_4; clear HB; have HO_4 := n0_; have HB := n1_; have BK524 := n2_; have GW524 := n3_; have GE524 := n4_; clear n0_ n1_ n2_ n3_ n4_; clear hb hbox hg; have hcz10_0 : w9.cell? ⟨gb524, 0, none⟩ = some (.int .i64 0) := (blk_cell BK524.out 0).trans rfl; have hcz10_1 : w9.cell? ⟨gb524, 1, none⟩ = some (.int .i64 0) := (blk_cell BK524.out 1).trans rfl; have hcz10_2 : w9.cell? ⟨gb524, 2, none⟩ = some (.float .f64 0) := (blk_cell BK524.out 2).trans rfl; have hcz10_3 : w9.cell? ⟨gb524, 3, none⟩ = some (.string (⟨#[]⟩ : ByteArray)) := (blk_cell BK524.out 3).trans rfl; have hfz10_0 := blk_frozen BK524.out 0; have hfz10_1 := blk_frozen BK524.out 1; have hfz10_2 := blk_frozen BK524.out 2; have hfz10_3 := blk_frozen BK524.out 3))
        go_ret2
        exact ⟨_, by first | rfl | (simp [errW_none, errW_some] <;> rfl) | (simp [*, errW_none, errW_some] <;> rfl), by first | exact Kd.R_nil _ _ _ _ _ | exact Kd.N_nil _ _ _ _ _ | exact Kd.V_nil _ _ _ _ _ | exact Kd.Q_nil _ _ _ _ _ | exact Kd.S_nil _ _ _ _ _, by repeat (first | (with_reducible first | exact HB.out | apply below_alloc | apply pw_below_drewN | apply below_drew1 | refine below_set ?_ GE524.out) | exact HB.out)⟩
       ·rw [if_neg c7] at H
        have c7b0 : (t523 == 0) = false := beq_eq_false_iff_ne.mpr c7
        have c7b1 : (t523 != 0) = true := bne_iff_ne.mpr c7
        by_cases c11 : x4_1.length < 3518437208883
        ·rw [if_pos c11] at H
         have LMc11 := Aside0.mk c11
         clear c11
         obtain ⟨y525, hy525⟩ : ∃ y_ : List (S50), y_ = (x4_1 ++ [(⟨t519, t520, t521, t522⟩ : S50)]) := ⟨_, rfl⟩
         replace H : (vellumref02_Decode.l0 k1 a0 y525 (wrap64 (x5_1 + t523))) = some (r1, r2) := by first | (rw [hy525]; with_reducible exact H) | (have H2_ := (Option.bind_some _ _).symm.trans H; rw [hy525]; with_reducible exact H2_) | (have H2_ := (Option.bind_some _ _).symm.trans H; with_reducible exact H2_) | with_reducible exact H | (rw [hy525]; exact H) | exact H
         have Ny525 := Aside0.mk hy525
         clear hy525
         have H' := Aside0.mk H
         clear H
         go_wp2_with (first | ((with_reducible refine gate_callee (f := 73) rfl ?_); refine goesL_ (some 21) rfl rfl Tryd.func73 (by kernel_rfl) rfl #[.string (a0.extract (x5_1 : Int).toNat a0.size)] rfl (by (try simp only [List.map_toArray, List.map_cons, List.map_nil]); first | done | rfl | (simp only [List.length_drop, List.length_take]; rfl)) ?_; (with_reducible refine (vellumref02_back.calls k1 (a0.extract (x5_1 : Int).toNat a0.size) t519 t520 t521 t522 t523 _ A6.out).mono ?_); rintro e w12 ⟨rfl, hb⟩; refine ⟨_, rfl, ?_⟩; have n0_ := Aside0.mk (Kd.R_below (by (with_reducible repeat (first | apply Kd.R_alloc | apply Kd.R_drewN | apply Kd.R_drew)); exact HO_4.out) hb); have n1_ := Aside0.mk (below_step (by repeat (first | (with_reducible first | exact HB.out | apply below_alloc | apply pw_below_drewN | apply below_drew1) | exact HB.out)) hb); clear HO_4; clear HB; have HO_4 := n0_; have HB := n1_; clear n0_ n1_; (try clear hb); (try clear hb2); (try clear hk); (try clear hi)) | ((with_reducible refine gate_dst (N := 6) rfl ?_); refine box_event ?hg (N := 6) ?hd (cs := #[.int .i64 0, .int .i64 0, .float .f64 0, .string (⟨#[]⟩ : ByteArray)]) (t := 50) ?hr ?_; (case hd => rfl); (case hg => rfl); (case hr => first | (go_simp; done) | (go_simp; rfl)); intro gb524 hg w13 hbox hb; have n0_ := Aside0.mk (Kd.R_below (Kd.R_elderB (by (with_reducible repeat (first | apply Kd.R_alloc | apply Kd.R_drewN | apply Kd.R_drew)); exact HO_4.out) gb524 (Nat.le_of_eq hg.symm)) hb); have n1_ := Aside0.mk (below_step (by repeat (first | (with_reducible first | exact HB.out | apply below_alloc | apply pw_below_drewN | apply below_drew1) | exact HB.out)) hb); have n2_ := Aside0.mk (hbox); have n3_ := Aside0.mk ((by rw [hg]; exact (below_size (by repeat (first | (with_reducible first | exact HB.out | apply below_alloc | apply pw_below_drewN | apply below_drew1) | exact HB.out))) : w.heap.size ≤ gb524)); have n4_ := n3_; clear HO_4; clear HB; have HO_4 := n0_; have HB := n1_; have BK524 := n2_; have GW524 := n3_; have GE524 := n4_; clear n0_ n1_ n2_ n3_ n4_; clear hb hbox hg; have hcz14_0 : w13.cell? ⟨gb524, 0, none⟩ = some (.int .i64 0) := (blk_cell BK524.out 0).trans rfl; have hcz14_1 : w13.cell? ⟨gb524, 1, none⟩ = some (.int .i64 0) := (blk_cell BK524.out 1).trans rfl; have hcz14_2 : w13.cell? ⟨gb524, 2, none⟩ = some (.float .f64 0) := (blk_cell BK524.out 2).trans rfl; have hcz14_3 : w13.cell? ⟨gb524, 3, none⟩ = some (.string (⟨#[]⟩ : ByteArray)) := (blk_cell BK524.out 3).trans rfl; have hfz14_0 := blk_frozen BK524.out 0; have hfz14_1 := blk_frozen BK524.out 1; have hfz14_2 := blk_frozen BK524.out 2; have hfz14_3 := blk_frozen BK524.out 3) | ((with_reducible refine gate_builtin (b := .append) (xs := #[.tmp 26, .tmp 28]) rfl ?_); at_builtin; refine Kd.R_append k50 (w0 := w) w.heap.size rfl (.tmp 26) (.tmp 28) 22 50 (.agg #[(.int .i64 0), (.int .i64 0), (.float .f64 0), (.string ⟨#[]⟩)]) 40 rfl Tryd.underlying22 info50 rfl (by decide) (by omega) u4 x4_1 (⟨t519, t520, t521, t522⟩ : S50) [.int .i64 t519, .int .i64 t520, .float .f64 t521, .string t522] (fun k_ => k_ ≠ gb524) (fun _ => False) rfl (by first | (go_simp; done) | (go_simp; rfl)) ?aP (fun _ hk => hk.elim) ?aF ?aO ?aB ?aS ?aL ?_; (case aP => exact k50_mkM _ _ _ (⟨t519, t520, t521, t522⟩ : S50)); (case aB => exact (by repeat (first | (with_reducible first | exact HB.out | apply below_alloc | apply pw_below_drewN | apply below_drew1 | refine below_set ?_ GE524.out) | exact HB.out))); (case aF => exact (fun k_ hk => Kd.freshB (g := gb524) (o := .cells #[.int .i64 t519, .int .i64 t520, .float .f64 t521, .string t522] 50 (0, 0)) (by (with_reducible repeat (first | refine blk_drewN ?_ _ | refine blk_drew ?_ | refine blk_alloc ?_ _)); refine blk_put (cs := #[.int .i64 t519, .int .i64 t520, .float .f64 t521, .string (⟨#[]⟩ : ByteArray)]) ?_ 3 _ rfl; (with_reducible repeat (first | refine blk_drewN ?_ _ | refine blk_drew ?_ | refine blk_alloc ?_ _)); refine blk_put (cs := #[.int .i64 t519, .int .i64 t520, .float .f64 0, .string (⟨#[]⟩ : ByteArray)]) ?_ 2 _ rfl; (with_reducible repeat (first | refine blk_drewN ?_ _ | refine blk_drew ?_ | refine blk_alloc ?_ _)); refine blk_put (cs := #[.int .i64 t519, .int .i64 0, .float .f64 0, .string (⟨#[]⟩ : ByteArray)]) ?_ 1 _ rfl; (with_reducible repeat (first | refine blk_drewN ?_ _ | refine blk_drew ?_ | refine blk_alloc ?_ _)); refine blk_put (cs := #[.int .i64 0, .int .i64 0, .float .f64 0, .string (⟨#[]⟩ : ByteArray)]) ?_ 0 _ rfl; (with_reducible repeat (first | refine blk_drewN ?_ _ | refine blk_drew ?_ | refine blk_alloc ?_ _)); exact BK524.out) k_ hk)); (case aO => exact (by (with_reducible repeat (first | apply Kd.R_alloc | apply Kd.R_drewN | apply Kd.R_drew)); exact Kd.R_mono (Kd.R_far (p := ⟨gb524, 3, none⟩) (Kd.R_far (p := ⟨gb524, 2, none⟩) (Kd.R_far (p := ⟨gb524, 1, none⟩) (Kd.R_far (p := ⟨gb524, 0, none⟩) (Kd.R_mono HO_4.out (fun k_ hk => (⟨hk, hk.2⟩ : _ ∧ k_ ≠ gb524))) (fun _ hk => hk.2) (.int .i64 t519)) (fun _ hk => hk.2) (.int .i64 t520)) (fun _ hk => hk.2) (.float .f64 t521)) (fun _ hk => hk.2) (.string t522)) (fun _ hk => hk.1.2))); (case aS => exact (below_size (by repeat (first | (with_reducible first | exact HB.out | apply below_alloc | apply pw_below_drewN | apply below_drew1 | refine below_set ?_ GE524.out) | exact HB.out)))); (case aL => have := LMc11.out; omega); intro v526 w15 ho hb hg hat; rw [← Ny525.out] at ho; have n0_ := Aside0.mk (blk_grown (g := gb524) (o := .cells #[.int .i64 t519, .int .i64 t520, .float .f64 t521, .string t522] 50 (0, 0)) (by (with_reducible repeat (first | refine blk_drewN ?_ _ | refine blk_drew ?_ | refine blk_alloc ?_ _)); refine blk_put (cs := #[.int .i64 t519, .int .i64 t520, .float .f64 t521, .string (⟨#[]⟩ : ByteArray)]) ?_ 3 _ rfl; (with_reducible repeat (first | refine blk_drewN ?_ _ | refine blk_drew ?_ | refine blk_alloc ?_ _)); refine blk_put (cs := #[.int .i64 t519, .int .i64 t520, .float .f64 0, .string (⟨#[]⟩ : ByteArray)]) ?_ 2 _ rfl; (with_reducible repeat (first | refine blk_drewN ?_ _ | refine blk_drew ?_ | refine blk_alloc ?_ _)); refine blk_put (cs := #[.int .i64 t519, .int .i64 0, .float .f64 0, .string (⟨#[]⟩ : ByteArray)]) ?_ 1 _ rfl; (with_reducible repeat (first | refine blk_drewN ?_ _ | refine blk_drew ?_ | refine blk_alloc ?_ _)); refine blk_put (cs := #[.int .i64 0, .int .i64 0, .float .f64 0, .string (⟨#[]⟩ : ByteArray)]) ?_ 0 _ rfl; (with_reducible repeat (first | refine blk_drewN ?_ _ | refine blk_drew ?_ | refine blk_alloc ?_ _)); exact BK524.out) hg (Kd.R_away HO_4.out (fun _ hk => hk.2))); have n1_ := Aside0.mk (hb); have n2_ := Aside0.mk (ho); clear BK524; clear HB; clear HO_4; have BK524 := n0_; have HB := n1_; have HO527 := n2_; clear n0_ n1_ n2_; clear ho hb hg hat))
         go_roundg k1
         case measure => have := HK1.out; omega
         case rel => exact ⟨(y525), (wrap64 (x5_1 + t523)), (by first | rfl | (simp; done) | (simp [*]; done) | (simp [bool_ne_nil]; done) | (simp; exact bool_ne_nil _)), H', ⟨by have := HK1.out; omega⟩, ⟨by (with_reducible repeat (first | apply Kd.R_alloc | apply Kd.R_drewN | apply Kd.R_drew)); exact Kd.R_mono HO527.out (fun _ hk => trivial)⟩, ⟨by repeat (first | (with_reducible first | exact HB.out | apply below_alloc | apply pw_below_drewN | apply below_drew1 | refine below_set ?_ GE524.out) | exact HB.out)⟩⟩
        ·rw [if_neg c11] at H
         exact absurd H (by simp)
      ·rw [if_neg c5] at H
       exact absurd H (by simp)
     ·rw [if_neg c4] at H
      exact absurd H (by simp)
    ·rw [if_neg c3] at H
     have c3b0 : decide (x5_1 < (a0.size : Int)) = false := decide_eq_false c3
     clear c3
     replace H := Option.bind_eq_some_iff.mp H
     obtain ⟨⟨t528, t529⟩, A160, H⟩ := H
     replace H : (if t529 = 0 then (if t528.toList = a0.toList then (some (x4_1, 0)) else (some (([] : List (S50)), 20))) else (some (([] : List (S50)), 20))) = some (r1, r2) := H
     have A16 := Aside0.mk A160
     clear A160
     by_cases c17 : t529 = 0
     ·rw [if_pos c17] at H
      have c17b0 : (t529 == 0) = true := beq_iff_eq.mpr c17
      have c17b1 : (t529 != 0) = false := bne_eq_false_iff_eq.mpr c17
      clear c17
      by_cases c18 : t528.toList = a0.toList
      ·rw [if_pos c18] at H
       have c18b0 : (t528.toList == a0.toList) = true := beq_iff_eq.mpr c18
       have c18b1 : (t528.toList != a0.toList) = false := bne_eq_false_iff_eq.mpr c18
       clear c18
       simp only [Option.some.injEq, Prod.mk.injEq] at H
       obtain ⟨rfl, rfl⟩ := H
       obtain ⟨Ao19, co19, eo19⟩ := Kd.R_slice HO_4.out
       subst eo19
       go_wp2_with (first | ((with_reducible refine gate_callee (f := 22) rfl ?_); refine goesL_ (some 35) rfl rfl Tryd.func22 (by kernel_rfl) rfl #[.slice Ao19 x4_1.length co19] rfl (by (try simp only [List.map_toArray, List.map_cons, List.map_nil]); first | done | rfl | (simp only [List.length_drop, List.length_take]; rfl)) ?_; (with_reducible refine (vellumref02_Encode.calls k1 _ _ x4_1 t528 t529 _ ?side1 ?side2 ?side3 A16.out).mono ?_); (case side1 => repeat (first | exact (Kd.R_reads' HO_4.out).2.2 | (with_reducible refine Kd.C_alloc ?_ _) | (with_reducible refine Kd.C_drewN ?_ _) | (with_reducible refine Kd.C_drew ?_))); (case side2 => exact (Kd.R_reads' HO_4.out).2.1); (case side3 => exact Glob.below HG.out (by repeat (first | (with_reducible first | exact HB.out | apply below_alloc | apply pw_below_drewN | apply below_drew1) | exact HB.out))); rintro e w20 ⟨rfl, hb⟩; refine ⟨_, rfl, ?_⟩; have n0_ := Aside0.mk (Kd.R_below (by (with_reducible repeat (first | apply Kd.R_alloc | apply Kd.R_drewN | apply Kd.R_drew)); exact HO_4.out) hb); have n1_ := Aside0.mk (below_step (by repeat (first | (with_reducible first | exact HB.out | apply below_alloc | apply pw_below_drewN | apply below_drew1) | exact HB.out)) hb); clear HO_4; clear HB; have HO_4 := n0_; have HB := n1_; clear n0_ n1_; (try clear hb); (try clear hb2); (try clear hk); (try clear hi)))
       go_ret2
       exact ⟨_, by first | rfl | (simp [errW_none, errW_some] <;> rfl) | (simp [*, errW_none, errW_some] <;> rfl), by (with_reducible repeat (first | apply Kd.R_alloc | apply Kd.R_drewN | apply Kd.R_drew)); exact HO_4.out, by repeat (first | (with_reducible first | exact HB.out | apply below_alloc | apply pw_below_drewN | apply below_drew1) | exact HB.out)⟩
      ·rw [if_neg c18] at H
       have c18b0 : (t528.toList == a0.toList) = false := beq_eq_false_iff_ne.mpr c18
       have c18b1 : (t528.toList != a0.toList) = true := bne_iff_ne.mpr c18
       simp only [Option.some.injEq, Prod.mk.injEq] at H
       obtain ⟨rfl, rfl⟩ := H
       obtain ⟨Ao21, co21, eo21⟩ := Kd.R_slice HO_4.out
       subst eo21
       go_wp2_with (first | ((with_reducible refine gate_callee (f := 22) rfl ?_); refine goesL_ (some 35) rfl rfl Tryd.func22 (by kernel_rfl) rfl #[.slice Ao21 x4_1.length co21] rfl (by (try simp only [List.map_toArray, List.map_cons, List.map_nil]); first | done | rfl | (simp only [List.length_drop, List.length_take]; rfl)) ?_; (with_reducible refine (vellumref02_Encode.calls k1 _ _ x4_1 t528 t529 _ ?side1 ?side2 ?side3 A16.out).mono ?_); (case side1 => repeat (first | exact (Kd.R_reads' HO_4.out).2.2 | (with_reducible refine Kd.C_alloc ?_ _) | (with_reducible refine Kd.C_drewN ?_ _) | (with_reducible refine Kd.C_drew ?_))); (case side2 => exact (Kd.R_reads' HO_4.out).2.1); (case side3 => exact Glob.below HG.out (by repeat (first | (with_reducible first | exact HB.out | apply below_alloc | apply pw_below_drewN | apply below_drew1) | exact HB.out))); rintro e w22 ⟨rfl, hb⟩; refine ⟨_, rfl, ?_⟩; have n0_ := Aside0.mk (Kd.R_below (by (with_reducible repeat (first | apply Kd.R_alloc | apply Kd.R_drewN | apply Kd.R_drew)); exact HO_4.out) hb); have n1_ := Aside0.mk (below_step (by repeat (first | (with_reducible first | exact HB.out | apply below_alloc | apply pw_below_drewN | apply below_drew1) | exact HB.out)) hb); clear HO_4; clear HB; have HO_4 := n0_; have HB := n1_; clear n0_ n1_; (try clear hb); (try clear hb2); (try clear hk); (try clear hi)))
       go_ret2
       exact ⟨_, by first | rfl | (simp [errW_none, errW_some] <;> rfl) | (simp [*, errW_none, errW_some] <;> rfl), by first | exact Kd.R_nil _ _ _ _ _ | exact Kd.N_nil _ _ _ _ _ | exact Kd.V_nil _ _ _ _ _ | exact Kd.Q_nil _ _ _ _ _ | exact Kd.S_nil _ _ _ _ _, by repeat (first | (with_reducible first | exact HB.out | apply below_alloc | apply pw_below_drewN | apply below_drew1) | exact HB.out)⟩
     ·rw [if_neg c17] at H
      have c17b0 : (t529 == 0) = false := beq_eq_false_iff_ne.mpr c17
      have c17b1 : (t529 != 0) = true := bne_iff_ne.mpr c17
      simp only [Option.some.injEq, Prod.mk.injEq] at H
      obtain ⟨rfl, rfl⟩ := H
      obtain ⟨Ao23, co23, eo23⟩ := Kd.R_slice HO_4.out
      subst eo23
      go_wp2_with (first | ((with_reducible refine gate_callee (f := 22) rfl ?_); refine goesL_ (some 35) rfl rfl Tryd.func22 (by kernel_rfl) rfl #[.slice Ao23 x4_1.length co23] rfl (by (try simp only [List.map_toArray, List.map_cons, List.map_nil]); first | done | rfl | (simp only [List.length_drop, List.length_take]; rfl)) ?_; (with_reducible refine (vellumref02_Encode.calls k1 _ _ x4_1 t528 t529 _ ?side1 ?side2 ?side3 A16.out).mono ?_); (case side1 => repeat (first | exact (Kd.R_reads' HO_4.out).2.2 | (with_reducible refine Kd.C_alloc ?_ _) | (with_reducible refine Kd.C_drewN ?_ _) | (with_reducible refine Kd.C_drew ?_))); (case side2 => exact (Kd.R_reads' HO_4.out).2.1); (case side3 => exact Glob.below HG.out (by repeat (first | (with_reducible first | exact HB.out | apply below_alloc | apply pw_below_drewN | apply below_drew1) | exact HB.out))); rintro e w24 ⟨rfl, hb⟩; refine ⟨_, rfl, ?_⟩; have n0_ := Aside0.mk (Kd.R_below (by (with_reducible repeat (first | apply Kd.R_alloc | apply Kd.R_drewN | apply Kd.R_drew)); exact HO_4.out) hb); have n1_ := Aside0.mk (below_step (by repeat (first | (with_reducible first | exact HB.out | apply below_alloc | apply pw_below_drewN | apply below_drew1) | exact HB.out)) hb); clear HO_4; clear HB; have HO_4 := n0_; have HB := n1_; clear n0_ n1_; (try clear hb); (try clear hb2); (try clear hk); (try clear hi)))
      go_ret2
      exact ⟨_, by first | rfl | (simp [errW_none, errW_some] <;> rfl) | (simp [*, errW_none, errW_some] <;> rfl), by first | exact Kd.R_nil _ _ _ _ _ | exact Kd.N_nil _ _ _ _ _ | exact Kd.V_nil _ _ _ _ _ | exact Kd.Q_nil _ _ _ _ _ | exact Kd.S_nil _ _ _ _ _, by repeat (first | (with_reducible first | exact HB.out | apply below_alloc | apply pw_below_drewN | apply below_drew1) | exact HB.out)⟩
def vellumref01_Same.f (a0_0 : Int) (a0_1 : Int) (a0_2 : Nat) (a0_3 : ByteArray) (a1_0 : Int) (a1_1 : Int) (a1_2 : Nat) (a1_3 : ByteArray) : Option (Bool) := if a0_0 = a1_0 then (if a0_1 = a1_1 then (if ((a0_2 : Nat) : Int) = ((a1_2 : Nat) : Int) then (some (a0_3.toList == a1_3.toList)) else (some false)) else (some false)) else (some false)
end Go.Proofs.YtpiifdbicibelaaDoor.PA
end
