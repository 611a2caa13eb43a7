/- Part 4 of what the proof of RowChanges stands on: words for walks, printed functions with their contracts, plain laws. -/
import Derived.Test.YtpiifdbicibelaaDoorKRowChanges2
section
namespace Go.Proofs.YtpiifdbicibelaaDoor.PA
open Go.RowKit Go.Proofs.YtpiifdbicibelaaDoorW.PrintWords Go.Proofs.YtpiifdbicibelaaDoorW.PrintLast Go.Proofs.YtpiifdbicibelaaDoorW.PrintMore
attribute [local go_sem] max2_int min2_int max_two min_two max_three min_three max_four min_four   -- for this text's walks alone
set_option linter.unusedVariables false
set_option linter.unusedSimpArgs false
set_option maxHeartbeats 8000000 in
set_option maxRecDepth 100000 in
theorem vellumref03_indexes.calls (k : Nat) (a0_0 : ByteArray) (A0_1 : Option Addr) (c0_1 : Nat) (l0_1 : List (S105)) (A0_2 : Option Addr) (c0_2 : Nat) (l0_2 : List Int) (A0_3 : Option Addr) (c0_3 : Nat) (l0_3 : List (S115)) (A0_4 : Option Addr) (c0_4 : Nat) (l0_4 : List (S139)) (r : Int) (w : World) (hr0_1 : Kd.C k105 w A0_1 l0_1.length l0_1) (hc0_1 : l0_1.length ≤ c0_1) (hr0_2 : Kd.C (Kd.int .i64) w A0_2 l0_2.length l0_2) (hc0_2 : l0_2.length ≤ c0_2) (hr0_3 : Kd.C k115 w A0_3 l0_3.length l0_3) (hc0_3 : l0_3.length ≤ c0_3) (hr0_4 : Kd.C k139 w A0_4 l0_4.length l0_4) (hc0_4 : l0_4.length ≤ c0_4) (h : vellumref03_indexes.f k a0_0 l0_1 l0_2 l0_3 l0_4 = some r) :
    Calls Tryd.prog 135 #[.agg #[.string a0_0, .slice A0_1 l0_1.length c0_1, .slice A0_2 l0_2.length c0_2, .slice A0_3 l0_3.length c0_3, .slice A0_4 l0_4.length c0_4]] w fun e w' => e = .returned (.int .i64 r) ∧ Below w.heap.size w w' := by
  have hu65 := Tryd.underlying65
  have hu115 := Tryd.underlying115
  have HR0_1 := Aside0.mk hr0_1
  have HC0_1 := Aside0.mk hc0_1
  clear hr0_1 hc0_1
  have HR0_2 := Aside0.mk hr0_2
  have HC0_2 := Aside0.mk hc0_2
  clear hr0_2 hc0_2
  have HR0_3 := Aside0.mk hr0_3
  have HC0_3 := Aside0.mk hc0_3
  clear hr0_3 hc0_3
  have HR0_4 := Aside0.mk hr0_4
  have HC0_4 := Aside0.mk hc0_4
  clear hr0_4 hc0_4
  have HB := Aside0.mk (Below.refl w.heap.size w)
  have H : (vellumref03_indexes.l0 k 0 a0_0 l0_1 l0_2 l0_3 l0_4) = some r := h
  clear h
  have H' := Aside0.mk H
  clear H
  go_enter Tryd.func135, Tryd.ntmps135
  go_wp2_with (first | ((with_reducible refine gate_dst (N := 1) rfl ?_); refine box_event rfl (N := 1) rfl (cs := #[.string a0_0, .slice A0_1 l0_1.length c0_1, .slice A0_2 l0_2.length c0_2, .slice A0_3 l0_3.length c0_3, .slice A0_4 l0_4.length c0_4]) (t := 65) gs ?_; intro gb639 hg w2 hbox hb; have n0_ := Aside0.mk (below_step (bl HB) hb); have n1_ := Aside0.mk (hbox); have n2_ := Aside0.mk ((by rw [hg]; exact (below_size (bl HB)) : w.heap.size ≤ gb639)); have n3_ := Aside0.mk ((by rw [hg]; exact (below_size (bl HB)) : w.heap.size ≤ gb639)); clear HB; have HB := n0_; have BK639 := n1_; have GW639 := n2_; have GE639 := n3_; clear n0_ n1_ n2_ n3_; clear hb hbox hg))
  repeat (go_quiet (first | ((with_reducible refine gate_dst (N := 1) rfl ?_); refine box_event rfl (N := 1) rfl (cs := #[.string a0_0, .slice A0_1 l0_1.length c0_1, .slice A0_2 l0_2.length c0_2, .slice A0_3 l0_3.length c0_3, .slice A0_4 l0_4.length c0_4]) (t := 65) gs ?_; intro gb639 hg w2 hbox hb; have n0_ := Aside0.mk (below_step (bl HB) hb); have n1_ := Aside0.mk (hbox); have n2_ := Aside0.mk ((by rw [hg]; exact (below_size (bl HB)) : w.heap.size ≤ gb639)); have n3_ := Aside0.mk ((by rw [hg]; exact (below_size (bl HB)) : w.heap.size ≤ gb639)); clear HB; have HB := n0_; have BK639 := n1_; have GW639 := n2_; have GE639 := n3_; clear n0_ n1_ n2_ n3_; clear hb hbox hg)); try go_wp2_with (first | ((with_reducible refine gate_dst (N := 1) rfl ?_); refine box_event rfl (N := 1) rfl (cs := #[.string a0_0, .slice A0_1 l0_1.length c0_1, .slice A0_2 l0_2.length c0_2, .slice A0_3 l0_3.length c0_3, .slice A0_4 l0_4.length c0_4]) (t := 65) gs ?_; intro gb639 hg w2 hbox hb; have n0_ := Aside0.mk (below_step (bl HB) hb); have n1_ := Aside0.mk (hbox); have n2_ := Aside0.mk ((by rw [hg]; exact (below_size (bl HB)) : w.heap.size ≤ gb639)); have n3_ := Aside0.mk ((by rw [hg]; exact (below_size (bl HB)) : w.heap.size ≤ gb639)); clear HB; have HB := n0_; have BK639 := n1_; have GW639 := n2_; have GE639 := n3_; clear n0_ n1_ n2_ n3_; clear hb hbox hg)))
  go_loopg [3] k (fun kq v3 w' => ∃ (x3_1 : Int), v3 = .int .i64 x3_1 ∧ Aside0 (vellumref03_indexes.l0 kq x3_1 a0_0 l0_1 l0_2 l0_3 l0_4 = some r) ∧ Aside0 (kq ≤ k) ∧ Aside0 (w'.heap[gb639]? = some (.cells #[.string a0_0, (.slice A0_1 l0_1.length c0_1), (.slice A0_2 l0_2.length c0_2), (.slice A0_3 l0_3.length c0_3), (.slice A0_4 l0_4.length c0_4)] 65 (0, 0))) ∧ Aside0 (Below w.heap.size w w'))
  case atStart => exact ⟨(0), eb, H', ⟨Nat.le_refl _⟩, ⟨bk BK639⟩, ⟨bl HB⟩⟩
  case round =>
    clear H'
    try clear c1
    try clear p2
    obtain ⟨x3_1, rfl, HA, HK1, BK639, HB⟩ := hrel
    cases gk with
    | zero => exact absurd HA.out (by simp [vellumref03_indexes.l0])
    | succ k1 =>
      have H := HA.out
      clear HA
      simp only [vellumref03_indexes.l0] at H
      by_cases c3 : x3_1 < (l0_3.length : Int)
      · rw [if_pos c3] at H
        have c3b0 : decide (x3_1 < (l0_3.length : Int)) = true := decide_eq_true c3
        clear c3
        by_cases c4 : 0 ≤ x3_1
        · rw [if_pos c4] at H
          have c4b0 : decide (0 ≤ x3_1) = true := decide_eq_true c4
          clear c4
          replace H := Option.bind_eq_some_iff.mp H
          obtain ⟨t642, A50, H⟩ := H
          replace H : (if t642 = true then (vellumref03_indexes.l1 k1 x3_1 0 a0_0 l0_1 l0_2 l0_3 l0_4 ((rd_T115 l0_3 x3_1).f0) ((rd_T115 l0_3 x3_1).f1) ((rd_T115 l0_3 x3_1).f2)) else (some 30)) = some r := H
          have A5 := Aside0.mk A50
          clear A50
          by_cases c6 : t642 = true
          · subst c6
            have H1 : (vellumref03_indexes.l1 k1 x3_1 0 a0_0 l0_1 l0_2 l0_3 l0_4 ((rd_T115 l0_3 x3_1).f0) ((rd_T115 l0_3 x3_1).f1) ((rd_T115 l0_3 x3_1).f2)) = some r := by rw [if_pos rfl] at H; exact H
            clear H
            have H := H1
            clear H1
            have H' := Aside0.mk H
            clear H
            obtain ⟨hcz7_0, hcz7_1, hcz7_2, hcz7_3, hcz7_4⟩ := bc5 BK639
            obtain ⟨hfz7_0, hfz7_1, hfz7_2, hfz7_3, hfz7_4⟩ := bf5 BK639
            have p640 : 0 ≤ (x3_1 : Int) := of_decide_eq_true asm
            have q640 : x3_1 < (l0_3.length : Int) := of_decide_eq_true asm
            obtain ⟨ad640, A640_1, c640_1, e640, hx640_0, hx640_1, hx640_2, hl640_1, hi640_1⟩ := at_T115 HR0_3.out x3_1 p640 q640
            cases e640
            replace hx640_0 := (HB.out.cell (World.block_lt_of_cell? w _ hx640_0)).trans hx640_0
            replace hx640_1 := (HB.out.cell (World.block_lt_of_cell? w _ hx640_1)).trans hx640_1
            replace hx640_2 := (HB.out.cell (World.block_lt_of_cell? w _ hx640_2)).trans hx640_2
            have HR640_1 := Aside0.mk hi640_1
            have HC640_1 := Aside0.mk hl640_1
            clear hi640_1 hl640_1
            replace p640 := eq_true p640
            replace q640 := eq_true q640
            go_wp2_with (first | ((with_reducible refine gate_dst (N := 4) rfl ?_); refine box_event rfl (N := 4) rfl (cs := #[.string (⟨#[]⟩ : ByteArray), .slice none 0 0, .bool false]) (t := 115) gs ?_; intro gb641 hg w8 hbox hb; have n0_ := Aside0.mk (blk_below (bk BK639) hb); have n1_ := Aside0.mk (below_step (bl HB) hb); have n2_ := Aside0.mk (hbox); have n3_ := Aside0.mk ((by rw [hg]; exact (below_size (bl HB)) : w.heap.size ≤ gb641)); have n4_ := Aside0.mk ((by rw [hg]; exact (below_size (bl HB)) : w.heap.size ≤ gb641)); have n5_ := Aside0.mk ((by rw [hg]; exact Nat.ne_of_lt (blk_lt (bk BK639)) : gb639 ≠ gb641)); have n6_ := Aside0.mk ((by rw [hg]; exact Nat.ne_of_gt (blk_lt (bk BK639)) : gb641 ≠ gb639)); clear BK639; clear HB; have BK639 := n0_; have HB := n1_; have BK641 := n2_; have GW641 := n3_; have GE641 := n4_; have NB639_641 := n5_; have NB641_639 := n6_; clear n0_ n1_ n2_ n3_ n4_ n5_ n6_; clear hb hbox hg; have hnb9 := NB641_639.out; have hnc9 := NB639_641.out; obtain ⟨hcz10_0, hcz10_1, hcz10_2⟩ := bc3 BK641; obtain ⟨hfz10_0, hfz10_1, hfz10_2⟩ := bf3 BK641) | (go_at_call 132; (with_reducible refine (vellumref03_Name.calls k1 ((rd_T115 l0_3 x3_1).f0) true _ A5.out).mono ?_); rintro e w11 ⟨rfl, hb⟩; have n0_ := Aside0.mk (blk_below (g := gb639) (o := .cells #[.string a0_0, .slice A0_1 l0_1.length c0_1, .slice A0_2 l0_2.length c0_2, .slice (some ad640) l0_3.length c0_3, .slice A0_4 l0_4.length c0_4] 65 (0, 0)) (by refine rp ?_; refine blk_far ?_ NB639_641.out _; refine rp ?_; refine blk_far ?_ NB639_641.out _; refine rp ?_; refine blk_far ?_ NB639_641.out _; (with_reducible repeat (first | refine blk_drewN ?_ _ | refine blk_drew ?_ | refine blk_alloc ?_ _)); exact BK639.out) hb); have n1_ := Aside0.mk (blk_below (g := gb641) (o := .cells #[.string ((rd_T115 l0_3 x3_1).f0), .slice A640_1 ((rd_T115 l0_3 x3_1).f1).length c640_1, .bool ((rd_T115 l0_3 x3_1).f2)] 115 (0, 0)) (by refine rp ?_; refine blk_put (cs := #[.string ((rd_T115 l0_3 x3_1).f0), .slice A640_1 ((rd_T115 l0_3 x3_1).f1).length c640_1, .bool false]) ?_ 2 _ rfl; refine rp ?_; refine blk_put (cs := #[.string ((rd_T115 l0_3 x3_1).f0), .slice none 0 0, .bool false]) ?_ 1 _ rfl; refine rp ?_; refine blk_put (cs := #[.string (⟨#[]⟩ : ByteArray), .slice none 0 0, .bool false]) ?_ 0 _ rfl; (with_reducible repeat (first | refine blk_drewN ?_ _ | refine blk_drew ?_ | refine blk_alloc ?_ _)); exact BK641.out) hb); have n2_ := Aside0.mk (below_step (bl HB) hb); clear BK639; clear BK641; clear HB; have BK639 := n0_; have BK641 := n1_; have HB := n2_; clear n0_ n1_ n2_; (try clear hb); (try clear hb2); (try clear hk); (try clear hi)))
            repeat (go_quiet (first | ((with_reducible refine gate_dst (N := 4) rfl ?_); refine box_event rfl (N := 4) rfl (cs := #[.string (⟨#[]⟩ : ByteArray), .slice none 0 0, .bool false]) (t := 115) gs ?_; intro gb641 hg w8 hbox hb; have n0_ := Aside0.mk (blk_below (bk BK639) hb); have n1_ := Aside0.mk (below_step (bl HB) hb); have n2_ := Aside0.mk (hbox); have n3_ := Aside0.mk ((by rw [hg]; exact (below_size (bl HB)) : w.heap.size ≤ gb641)); have n4_ := Aside0.mk ((by rw [hg]; exact (below_size (bl HB)) : w.heap.size ≤ gb641)); have n5_ := Aside0.mk ((by rw [hg]; exact Nat.ne_of_lt (blk_lt (bk BK639)) : gb639 ≠ gb641)); have n6_ := Aside0.mk ((by rw [hg]; exact Nat.ne_of_gt (blk_lt (bk BK639)) : gb641 ≠ gb639)); clear BK639; clear HB; have BK639 := n0_; have HB := n1_; have BK641 := n2_; have GW641 := n3_; have GE641 := n4_; have NB639_641 := n5_; have NB641_639 := n6_; clear n0_ n1_ n2_ n3_ n4_ n5_ n6_; clear hb hbox hg; have hnb9 := NB641_639.out; have hnc9 := NB639_641.out; obtain ⟨hcz10_0, hcz10_1, hcz10_2⟩ := bc3 BK641; obtain ⟨hfz10_0, hfz10_1, hfz10_2⟩ := bf3 BK641) | (go_at_call 132; (with_reducible refine (vellumref03_Name.calls k1 ((rd_T115 l0_3 x3_1).f0) true _ A5.out).mono ?_); rintro e w11 ⟨rfl, hb⟩; have n0_ := Aside0.mk (blk_below (g := gb639) (o := .cells #[.string a0_0, .slice A0_1 l0_1.length c0_1, .slice A0_2 l0_2.length c0_2, .slice (some ad640) l0_3.length c0_3, .slice A0_4 l0_4.length c0_4] 65 (0, 0)) (by refine rp ?_; refine blk_far ?_ NB639_641.out _; refine rp ?_; refine blk_far ?_ NB639_641.out _; refine rp ?_; refine blk_far ?_ NB639_641.out _; (with_reducible repeat (first | refine blk_drewN ?_ _ | refine blk_drew ?_ | refine blk_alloc ?_ _)); exact BK639.out) hb); have n1_ := Aside0.mk (blk_below (g := gb641) (o := .cells #[.string ((rd_T115 l0_3 x3_1).f0), .slice A640_1 ((rd_T115 l0_3 x3_1).f1).length c640_1, .bool ((rd_T115 l0_3 x3_1).f2)] 115 (0, 0)) (by refine rp ?_; refine blk_put (cs := #[.string ((rd_T115 l0_3 x3_1).f0), .slice A640_1 ((rd_T115 l0_3 x3_1).f1).length c640_1, .bool false]) ?_ 2 _ rfl; refine rp ?_; refine blk_put (cs := #[.string ((rd_T115 l0_3 x3_1).f0), .slice none 0 0, .bool false]) ?_ 1 _ rfl; refine rp ?_; refine blk_put (cs := #[.string (⟨#[]⟩ : ByteArray), .slice none 0 0, .bool false]) ?_ 0 _ rfl; (with_reducible repeat (first | refine blk_drewN ?_ _ | refine blk_drew ?_ | refine blk_alloc ?_ _)); exact BK641.out) hb); have n2_ := Aside0.mk (below_step (bl HB) hb); clear BK639; clear BK641; clear HB; have BK639 := n0_; have BK641 := n1_; have HB := n2_; clear n0_ n1_ n2_; (try clear hb); (try clear hb2); (try clear hk); (try clear hi))); try go_wp2_with (first | ((with_reducible refine gate_dst (N := 4) rfl ?_); refine box_event rfl (N := 4) rfl (cs := #[.string (⟨#[]⟩ : ByteArray), .slice none 0 0, .bool false]) (t := 115) gs ?_; intro gb641 hg w8 hbox hb; have n0_ := Aside0.mk (blk_below (bk BK639) hb); have n1_ := Aside0.mk (below_step (bl HB) hb); have n2_ := Aside0.mk (hbox); have n3_ := Aside0.mk ((by rw [hg]; exact (below_size (bl HB)) : w.heap.size ≤ gb641)); have n4_ := Aside0.mk ((by rw [hg]; exact (below_size (bl HB)) : w.heap.size ≤ gb641)); have n5_ := Aside0.mk ((by rw [hg]; exact Nat.ne_of_lt (blk_lt (bk BK639)) : gb639 ≠ gb641)); have n6_ := Aside0.mk ((by rw [hg]; exact Nat.ne_of_gt (blk_lt (bk BK639)) : gb641 ≠ gb639)); clear BK639; clear HB; have BK639 := n0_; have HB := n1_; have BK641 := n2_; have GW641 := n3_; have GE641 := n4_; have NB639_641 := n5_; have NB641_639 := n6_; clear n0_ n1_ n2_ n3_ n4_ n5_ n6_; clear hb hbox hg; have hnb9 := NB641_639.out; have hnc9 := NB639_641.out; obtain ⟨hcz10_0, hcz10_1, hcz10_2⟩ := bc3 BK641; obtain ⟨hfz10_0, hfz10_1, hfz10_2⟩ := bf3 BK641) | (go_at_call 132; (with_reducible refine (vellumref03_Name.calls k1 ((rd_T115 l0_3 x3_1).f0) true _ A5.out).mono ?_); rintro e w11 ⟨rfl, hb⟩; have n0_ := Aside0.mk (blk_below (g := gb639) (o := .cells #[.string a0_0, .slice A0_1 l0_1.length c0_1, .slice A0_2 l0_2.length c0_2, .slice (some ad640) l0_3.length c0_3, .slice A0_4 l0_4.length c0_4] 65 (0, 0)) (by refine rp ?_; refine blk_far ?_ NB639_641.out _; refine rp ?_; refine blk_far ?_ NB639_641.out _; refine rp ?_; refine blk_far ?_ NB639_641.out _; (with_reducible repeat (first | refine blk_drewN ?_ _ | refine blk_drew ?_ | refine blk_alloc ?_ _)); exact BK639.out) hb); have n1_ := Aside0.mk (blk_below (g := gb641) (o := .cells #[.string ((rd_T115 l0_3 x3_1).f0), .slice A640_1 ((rd_T115 l0_3 x3_1).f1).length c640_1, .bool ((rd_T115 l0_3 x3_1).f2)] 115 (0, 0)) (by refine rp ?_; refine blk_put (cs := #[.string ((rd_T115 l0_3 x3_1).f0), .slice A640_1 ((rd_T115 l0_3 x3_1).f1).length c640_1, .bool false]) ?_ 2 _ rfl; refine rp ?_; refine blk_put (cs := #[.string ((rd_T115 l0_3 x3_1).f0), .slice none 0 0, .bool false]) ?_ 1 _ rfl; refine rp ?_; refine blk_put (cs := #[.string (⟨#[]⟩ : ByteArray), .slice none 0 0, .bool false]) ?_ 0 _ rfl; (with_reducible repeat (first | refine blk_drewN ?_ _ | refine blk_drew ?_ | refine blk_alloc ?_ _)); exact BK641.out) hb); have n2_ := Aside0.mk (below_step (bl HB) hb); clear BK639; clear BK641; clear HB; have BK639 := n0_; have BK641 := n1_; have HB := n2_; clear n0_ n1_ n2_; (try clear hb); (try clear hb2); (try clear hk); (try clear hi))))
            go_loopg [5] k1 (fun kq v5 w' => ∃ (x5_2 : Int), v5 = .int .i64 x5_2 ∧ Aside0 (vellumref03_indexes.l1 kq x3_1 x5_2 a0_0 l0_1 l0_2 l0_3 l0_4 ((rd_T115 l0_3 x3_1).f0) ((rd_T115 l0_3 x3_1).f1) ((rd_T115 l0_3 x3_1).f2) = some r) ∧ Aside0 (kq ≤ k1) ∧ Aside0 (w'.heap[gb639]? = some (.cells #[.string a0_0, (.slice A0_1 l0_1.length c0_1), (.slice A0_2 l0_2.length c0_2), (.slice (some ad640) l0_3.length c0_3), (.slice A0_4 l0_4.length c0_4)] 65 (0, 0))) ∧ Aside0 (w'.heap[gb641]? = some (.cells #[.string ((rd_T115 l0_3 x3_1).f0), (.slice A640_1 ((rd_T115 l0_3 x3_1).f1).length c640_1), .bool ((rd_T115 l0_3 x3_1).f2)] 115 (0, 0))) ∧ Aside0 (Below w.heap.size w w'))
            case atStart => exact ⟨(0), eb, H', ⟨Nat.le_refl _⟩, ⟨bk BK639⟩, ⟨bk BK641⟩, ⟨bl HB⟩⟩
            case round =>
              clear H'
              try clear c1
              try clear p2
              try clear c3
              try clear c3b0
              try clear c4
              try clear c4b0
              try clear c6
              try clear p6
              try clear q6
              try clear hx6
              try clear c9
              try clear hcz10_0
              try clear hcz10_1
              try clear hcz10_2
              try clear hcz7_0
              try clear hcz7_1
              try clear hcz7_2
              try clear hcz7_3
              try clear hcz7_4
              try clear hfz10_0
              try clear hfz10_1
              try clear hfz10_2
              try clear hfz7_0
              try clear hfz7_1
              try clear hfz7_2
              try clear hfz7_3
              try clear hfz7_4
              try clear hx640_0
              try clear hx640_1
              try clear hx640_2
              try clear p2
              try clear p640
              try clear q640
              obtain ⟨x5_2, rfl, HA, HK2, BK639, BK641, HB⟩ := hrel
              cases gk with
              | zero => exact absurd HA.out (by simp [vellumref03_indexes.l1])
              | succ k2 =>
                have H := HA.out
                clear HA
                simp only [vellumref03_indexes.l1] at H
                by_cases c12 : x5_2 < x3_1
                · rw [if_pos c12] at H
                  have c12b0 : decide (x5_2 < x3_1) = true := decide_eq_true c12
                  clear c12
                  by_cases c13 : 0 ≤ x5_2
                  · rw [if_pos c13] at H
                    have c13b0 : decide (0 ≤ x5_2) = true := decide_eq_true c13
                    clear c13
                    by_cases c14 : x5_2 < (l0_3.length : Int)
                    · rw [if_pos c14] at H
                      have c14b0 : decide (x5_2 < (l0_3.length : Int)) = true := decide_eq_true c14
                      clear c14
                      by_cases c15 : ((rd_T115 l0_3 x5_2).f0).toList = ((rd_T115 l0_3 x3_1).f0).toList
                      · rw [if_pos c15] at H
                        have c15b0 : (((rd_T115 l0_3 x5_2).f0).toList == ((rd_T115 l0_3 x3_1).f0).toList) = true := beq_iff_eq.mpr c15
                        have c15b1 : (((rd_T115 l0_3 x5_2).f0).toList != ((rd_T115 l0_3 x3_1).f0).toList) = false := bne_eq_false_iff_eq.mpr c15
                        clear c15
                        obtain rfl := Option.some.inj H
                        have hnb16 := NB639_641.out
                        have hnc16 := NB641_639.out
                        obtain ⟨hcz17_0, hcz17_1, hcz17_2, hcz17_3, hcz17_4⟩ := bc5 BK639
                        obtain ⟨hfz17_0, hfz17_1, hfz17_2, hfz17_3, hfz17_4⟩ := bf5 BK639
                        have p643 : 0 ≤ (x5_2 : Int) := of_decide_eq_true asm
                        have q643 : x5_2 < (l0_3.length : Int) := of_decide_eq_true asm
                        obtain ⟨ad643, A643_1, c643_1, e643, hx643_0, hx643_1, hx643_2, hl643_1, hi643_1⟩ := at_T115 HR0_3.out x5_2 p643 q643
                        obtain rfl : ad640 = ad643 := (by injection e643)
                        replace hx643_0 := (HB.out.cell (World.block_lt_of_cell? w _ hx643_0)).trans hx643_0
                        replace hx643_1 := (HB.out.cell (World.block_lt_of_cell? w _ hx643_1)).trans hx643_1
                        replace hx643_2 := (HB.out.cell (World.block_lt_of_cell? w _ hx643_2)).trans hx643_2
                        have HR643_1 := Aside0.mk hi643_1
                        have HC643_1 := Aside0.mk hl643_1
                        clear hi643_1 hl643_1
                        replace p643 := eq_true p643
                        replace q643 := eq_true q643
                        obtain ⟨hcz18_0, hcz18_1, hcz18_2⟩ := bc3 BK641
                        obtain ⟨hfz18_0, hfz18_1, hfz18_2⟩ := bf3 BK641
                        go_wp2
                        repeat (go_quiet (fail); try go_wp2)
                        go_ret
                        exact ⟨er, bl HB⟩
                      · rw [if_neg c15] at H
                        have c15b0 : (((rd_T115 l0_3 x5_2).f0).toList == ((rd_T115 l0_3 x3_1).f0).toList) = false := beq_eq_false_iff_ne.mpr c15
                        have c15b1 : (((rd_T115 l0_3 x5_2).f0).toList != ((rd_T115 l0_3 x3_1).f0).toList) = true := bne_iff_ne.mpr c15
                        have H' := Aside0.mk H
                        clear H
                        have hnb19 := NB639_641.out
                        have hnc19 := NB641_639.out
                        obtain ⟨hcz20_0, hcz20_1, hcz20_2, hcz20_3, hcz20_4⟩ := bc5 BK639
                        obtain ⟨hfz20_0, hfz20_1, hfz20_2, hfz20_3, hfz20_4⟩ := bf5 BK639
                        have p643 : 0 ≤ (x5_2 : Int) := of_decide_eq_true asm
                        have q643 : x5_2 < (l0_3.length : Int) := of_decide_eq_true asm
                        obtain ⟨ad643, A643_1, c643_1, e643, hx643_0, hx643_1, hx643_2, hl643_1, hi643_1⟩ := at_T115 HR0_3.out x5_2 p643 q643
                        obtain rfl : ad640 = ad643 := (by injection e643)
                        replace hx643_0 := (HB.out.cell (World.block_lt_of_cell? w _ hx643_0)).trans hx643_0
                        replace hx643_1 := (HB.out.cell (World.block_lt_of_cell? w _ hx643_1)).trans hx643_1
                        replace hx643_2 := (HB.out.cell (World.block_lt_of_cell? w _ hx643_2)).trans hx643_2
                        have HR643_1 := Aside0.mk hi643_1
                        have HC643_1 := Aside0.mk hl643_1
                        clear hi643_1 hl643_1
                        replace p643 := eq_true p643
                        replace q643 := eq_true q643
                        obtain ⟨hcz21_0, hcz21_1, hcz21_2⟩ := bc3 BK641
                        obtain ⟨hfz21_0, hfz21_1, hfz21_2⟩ := bf3 BK641
                        go_wp2
                        repeat (go_quiet (fail); try go_wp2)
                        go_roundg k2
                        case measure => have := HK1.out; have := HK2.out; omega
                        case rel => exact ⟨(wrap64 (x5_2 + 1)), eb, H', ⟨by have := HK1.out; have := HK2.out; omega⟩, ⟨bk BK639⟩, ⟨bk BK641⟩, ⟨bl HB⟩⟩
                    · rw [if_neg c14] at H
                      exact absurd H (by simp)
                  · rw [if_neg c13] at H
                    exact absurd H (by simp)
                · rw [if_neg c12] at H
                  have c12b0 : decide (x5_2 < x3_1) = false := decide_eq_false c12
                  clear c12
                  replace H := Option.bind_eq_some_iff.mp H
                  obtain ⟨t644, A220, H⟩ := H
                  replace H : (if t644 = true then (vellumref03_indexes.l0 k2 (wrap64 (x3_1 + 1)) a0_0 l0_1 l0_2 l0_3 l0_4) else (some 33)) = some r := H
                  have A22 := Aside0.mk A220
                  clear A220
                  by_cases c23 : t644 = true
                  · subst c23
                    have H1 : (vellumref03_indexes.l0 k2 (wrap64 (x3_1 + 1)) a0_0 l0_1 l0_2 l0_3 l0_4) = some r := by rw [if_pos rfl] at H; exact H
                    clear H
                    have H := H1
                    clear H1
                    have H' := Aside0.mk H
                    clear H
                    have hnb24 := NB639_641.out
                    have hnc24 := NB641_639.out
                    obtain ⟨hcz25_0, hcz25_1, hcz25_2, hcz25_3, hcz25_4⟩ := bc5 BK639
                    obtain ⟨hfz25_0, hfz25_1, hfz25_2, hfz25_3, hfz25_4⟩ := bf5 BK639
                    obtain ⟨hcz26_0, hcz26_1, hcz26_2⟩ := bc3 BK641
                    obtain ⟨hfz26_0, hfz26_1, hfz26_2⟩ := bf3 BK641
                    go_wp2_with (first | (go_at_call 134; (with_reducible refine (vellumref03_some.calls k2 a0_0 _ _ l0_1 _ _ l0_2 _ _ l0_3 _ _ l0_4 _ _ ((rd_T115 l0_3 x3_1).f1) true _ (Kd.cb HR0_1 HB) HC0_1.out (Kd.cb HR0_2 HB) HC0_2.out (Kd.cb HR0_3 HB) HC0_3.out (Kd.cb HR0_4 HB) HC0_4.out (Kd.cb HR640_1 HB) HC640_1.out A22.out).mono ?_); rintro e w27 ⟨rfl, hb⟩; have n0_ := Aside0.mk (blk_below (bk BK639) hb); have n1_ := Aside0.mk (blk_below (bk BK641) hb); have n2_ := Aside0.mk (below_step (bl HB) hb); clear BK639; clear BK641; clear HB; have BK639 := n0_; have BK641 := n1_; have HB := n2_; clear n0_ n1_ n2_; (try clear hb); (try clear hb2); (try clear hk); (try clear hi)))
                    repeat (go_quiet (first | (go_at_call 134; (with_reducible refine (vellumref03_some.calls k2 a0_0 _ _ l0_1 _ _ l0_2 _ _ l0_3 _ _ l0_4 _ _ ((rd_T115 l0_3 x3_1).f1) true _ (Kd.cb HR0_1 HB) HC0_1.out (Kd.cb HR0_2 HB) HC0_2.out (Kd.cb HR0_3 HB) HC0_3.out (Kd.cb HR0_4 HB) HC0_4.out (Kd.cb HR640_1 HB) HC640_1.out A22.out).mono ?_); rintro e w27 ⟨rfl, hb⟩; have n0_ := Aside0.mk (blk_below (bk BK639) hb); have n1_ := Aside0.mk (blk_below (bk BK641) hb); have n2_ := Aside0.mk (below_step (bl HB) hb); clear BK639; clear BK641; clear HB; have BK639 := n0_; have BK641 := n1_; have HB := n2_; clear n0_ n1_ n2_; (try clear hb); (try clear hb2); (try clear hk); (try clear hi))); try go_wp2_with (first | (go_at_call 134; (with_reducible refine (vellumref03_some.calls k2 a0_0 _ _ l0_1 _ _ l0_2 _ _ l0_3 _ _ l0_4 _ _ ((rd_T115 l0_3 x3_1).f1) true _ (Kd.cb HR0_1 HB) HC0_1.out (Kd.cb HR0_2 HB) HC0_2.out (Kd.cb HR0_3 HB) HC0_3.out (Kd.cb HR0_4 HB) HC0_4.out (Kd.cb HR640_1 HB) HC640_1.out A22.out).mono ?_); rintro e w27 ⟨rfl, hb⟩; have n0_ := Aside0.mk (blk_below (bk BK639) hb); have n1_ := Aside0.mk (blk_below (bk BK641) hb); have n2_ := Aside0.mk (below_step (bl HB) hb); clear BK639; clear BK641; clear HB; have BK639 := n0_; have BK641 := n1_; have HB := n2_; clear n0_ n1_ n2_; (try clear hb); (try clear hb2); (try clear hk); (try clear hi))))
                    go_roundg k2
                    case measure => have := HK1.out; have := HK2.out; omega
                    case rel => exact ⟨(wrap64 (x3_1 + 1)), eb, H', ⟨by have := HK1.out; have := HK2.out; omega⟩, ⟨bk BK639⟩, ⟨bl HB⟩⟩
                  · replace c23 := Bool.eq_false_iff.mpr c23
                    subst c23
                    have H1 : (some 33) = some r := by rw [if_neg (show ¬ (false = true) by decide)] at H; exact H
                    clear H
                    have H := H1
                    clear H1
                    obtain rfl := Option.some.inj H
                    have hnb28 := NB639_641.out
                    have hnc28 := NB641_639.out
                    obtain ⟨hcz29_0, hcz29_1, hcz29_2, hcz29_3, hcz29_4⟩ := bc5 BK639
                    obtain ⟨hfz29_0, hfz29_1, hfz29_2, hfz29_3, hfz29_4⟩ := bf5 BK639
                    obtain ⟨hcz30_0, hcz30_1, hcz30_2⟩ := bc3 BK641
                    obtain ⟨hfz30_0, hfz30_1, hfz30_2⟩ := bf3 BK641
                    go_wp2_with (first | (go_at_call 134; (with_reducible refine (vellumref03_some.calls k2 a0_0 _ _ l0_1 _ _ l0_2 _ _ l0_3 _ _ l0_4 _ _ ((rd_T115 l0_3 x3_1).f1) false _ (Kd.cb HR0_1 HB) HC0_1.out (Kd.cb HR0_2 HB) HC0_2.out (Kd.cb HR0_3 HB) HC0_3.out (Kd.cb HR0_4 HB) HC0_4.out (Kd.cb HR640_1 HB) HC640_1.out A22.out).mono ?_); rintro e w31 ⟨rfl, hb⟩; have n0_ := Aside0.mk (blk_below (bk BK639) hb); have n1_ := Aside0.mk (blk_below (bk BK641) hb); have n2_ := Aside0.mk (below_step (bl HB) hb); clear BK639; clear BK641; clear HB; have BK639 := n0_; have BK641 := n1_; have HB := n2_; clear n0_ n1_ n2_; (try clear hb); (try clear hb2); (try clear hk); (try clear hi)))
                    repeat (go_quiet (first | (go_at_call 134; (with_reducible refine (vellumref03_some.calls k2 a0_0 _ _ l0_1 _ _ l0_2 _ _ l0_3 _ _ l0_4 _ _ ((rd_T115 l0_3 x3_1).f1) false _ (Kd.cb HR0_1 HB) HC0_1.out (Kd.cb HR0_2 HB) HC0_2.out (Kd.cb HR0_3 HB) HC0_3.out (Kd.cb HR0_4 HB) HC0_4.out (Kd.cb HR640_1 HB) HC640_1.out A22.out).mono ?_); rintro e w31 ⟨rfl, hb⟩; have n0_ := Aside0.mk (blk_below (bk BK639) hb); have n1_ := Aside0.mk (blk_below (bk BK641) hb); have n2_ := Aside0.mk (below_step (bl HB) hb); clear BK639; clear BK641; clear HB; have BK639 := n0_; have BK641 := n1_; have HB := n2_; clear n0_ n1_ n2_; (try clear hb); (try clear hb2); (try clear hk); (try clear hi))); try go_wp2_with (first | (go_at_call 134; (with_reducible refine (vellumref03_some.calls k2 a0_0 _ _ l0_1 _ _ l0_2 _ _ l0_3 _ _ l0_4 _ _ ((rd_T115 l0_3 x3_1).f1) false _ (Kd.cb HR0_1 HB) HC0_1.out (Kd.cb HR0_2 HB) HC0_2.out (Kd.cb HR0_3 HB) HC0_3.out (Kd.cb HR0_4 HB) HC0_4.out (Kd.cb HR640_1 HB) HC640_1.out A22.out).mono ?_); rintro e w31 ⟨rfl, hb⟩; have n0_ := Aside0.mk (blk_below (bk BK639) hb); have n1_ := Aside0.mk (blk_below (bk BK641) hb); have n2_ := Aside0.mk (below_step (bl HB) hb); clear BK639; clear BK641; clear HB; have BK639 := n0_; have BK641 := n1_; have HB := n2_; clear n0_ n1_ n2_; (try clear hb); (try clear hb2); (try clear hk); (try clear hi))))
                    go_ret
                    exact ⟨er, bl HB⟩
          · replace c6 := Bool.eq_false_iff.mpr c6
            subst c6
            have H1 : (some 30) = some r := by rw [if_neg (show ¬ (false = true) by decide)] at H; exact H
            clear H
            have H := H1
            clear H1
            obtain rfl := Option.some.inj H
            obtain ⟨hcz32_0, hcz32_1, hcz32_2, hcz32_3, hcz32_4⟩ := bc5 BK639
            obtain ⟨hfz32_0, hfz32_1, hfz32_2, hfz32_3, hfz32_4⟩ := bf5 BK639
            have p640 : 0 ≤ (x3_1 : Int) := of_decide_eq_true asm
            have q640 : x3_1 < (l0_3.length : Int) := of_decide_eq_true asm
            obtain ⟨ad640, A640_1, c640_1, e640, hx640_0, hx640_1, hx640_2, hl640_1, hi640_1⟩ := at_T115 HR0_3.out x3_1 p640 q640
            cases e640
            replace hx640_0 := (HB.out.cell (World.block_lt_of_cell? w _ hx640_0)).trans hx640_0
            replace hx640_1 := (HB.out.cell (World.block_lt_of_cell? w _ hx640_1)).trans hx640_1
            replace hx640_2 := (HB.out.cell (World.block_lt_of_cell? w _ hx640_2)).trans hx640_2
            have HR640_1 := Aside0.mk hi640_1
            have HC640_1 := Aside0.mk hl640_1
            clear hi640_1 hl640_1
            replace p640 := eq_true p640
            replace q640 := eq_true q640
            go_wp2_with (first | ((with_reducible refine gate_dst (N := 4) rfl ?_); refine box_event rfl (N := 4) rfl (cs := #[.string (⟨#[]⟩ : ByteArray), .slice none 0 0, .bool false]) (t := 115) gs ?_; intro gb641 hg w33 hbox hb; have n0_ := Aside0.mk (blk_below (bk BK639) hb); have n1_ := Aside0.mk (below_step (bl HB) hb); have n2_ := Aside0.mk (hbox); have n3_ := Aside0.mk ((by rw [hg]; exact (below_size (bl HB)) : w.heap.size ≤ gb641)); have n4_ := Aside0.mk ((by rw [hg]; exact (below_size (bl HB)) : w.heap.size ≤ gb641)); have n5_ := Aside0.mk ((by rw [hg]; exact Nat.ne_of_lt (blk_lt (bk BK639)) : gb639 ≠ gb641)); have n6_ := Aside0.mk ((by rw [hg]; exact Nat.ne_of_gt (blk_lt (bk BK639)) : gb641 ≠ gb639)); clear BK639; clear HB; have BK639 := n0_; have HB := n1_; have BK641 := n2_; have GW641 := n3_; have GE641 := n4_; have NB639_641 := n5_; have NB641_639 := n6_; clear n0_ n1_ n2_ n3_ n4_ n5_ n6_; clear hb hbox hg; have hnb34 := NB641_639.out; have hnc34 := NB639_641.out; obtain ⟨hcz35_0, hcz35_1, hcz35_2⟩ := bc3 BK641; obtain ⟨hfz35_0, hfz35_1, hfz35_2⟩ := bf3 BK641) | (go_at_call 132; (with_reducible refine (vellumref03_Name.calls k1 ((rd_T115 l0_3 x3_1).f0) false _ A5.out).mono ?_); rintro e w36 ⟨rfl, hb⟩; have n0_ := Aside0.mk (blk_below (g := gb639) (o := .cells #[.string a0_0, .slice A0_1 l0_1.length c0_1, .slice A0_2 l0_2.length c0_2, .slice (some ad640) l0_3.length c0_3, .slice A0_4 l0_4.length c0_4] 65 (0, 0)) (by refine rp ?_; refine blk_far ?_ NB639_641.out _; refine rp ?_; refine blk_far ?_ NB639_641.out _; refine rp ?_; refine blk_far ?_ NB639_641.out _; (with_reducible repeat (first | refine blk_drewN ?_ _ | refine blk_drew ?_ | refine blk_alloc ?_ _)); exact BK639.out) hb); have n1_ := Aside0.mk (blk_below (g := gb641) (o := .cells #[.string ((rd_T115 l0_3 x3_1).f0), .slice A640_1 ((rd_T115 l0_3 x3_1).f1).length c640_1, .bool ((rd_T115 l0_3 x3_1).f2)] 115 (0, 0)) (by refine rp ?_; refine blk_put (cs := #[.string ((rd_T115 l0_3 x3_1).f0), .slice A640_1 ((rd_T115 l0_3 x3_1).f1).length c640_1, .bool false]) ?_ 2 _ rfl; refine rp ?_; refine blk_put (cs := #[.string ((rd_T115 l0_3 x3_1).f0), .slice none 0 0, .bool false]) ?_ 1 _ rfl; refine rp ?_; refine blk_put (cs := #[.string (⟨#[]⟩ : ByteArray), .slice none 0 0, .bool false]) ?_ 0 _ rfl; (with_reducible repeat (first | refine blk_drewN ?_ _ | refine blk_drew ?_ | refine blk_alloc ?_ _)); exact BK641.out) hb); have n2_ := Aside0.mk (below_step (bl HB) hb); clear BK639; clear BK641; clear HB; have BK639 := n0_; have BK641 := n1_; have HB := n2_; clear n0_ n1_ n2_; (try clear hb); (try clear hb2); (try clear hk); (try clear hi)))
            repeat (go_quiet (first | ((with_reducible refine gate_dst (N := 4) rfl ?_); refine box_event rfl (N := 4) rfl (cs := #[.string (⟨#[]⟩ : ByteArray), .slice none 0 0, .bool false]) (t := 115) gs ?_; intro gb641 hg w33 hbox hb; have n0_ := Aside0.mk (blk_below (bk BK639) hb); have n1_ := Aside0.mk (below_step (bl HB) hb); have n2_ := Aside0.mk (hbox); have n3_ := Aside0.mk ((by rw [hg]; exact (below_size (bl HB)) : w.heap.size ≤ gb641)); have n4_ := Aside0.mk ((by rw [hg]; exact (below_size (bl HB)) : w.heap.size ≤ gb641)); have n5_ := Aside0.mk ((by rw [hg]; exact Nat.ne_of_lt (blk_lt (bk BK639)) : gb639 ≠ gb641)); have n6_ := Aside0.mk ((by rw [hg]; exact Nat.ne_of_gt (blk_lt (bk BK639)) : gb641 ≠ gb639)); clear BK639; clear HB; have BK639 := n0_; have HB := n1_; have BK641 := n2_; have GW641 := n3_; have GE641 := n4_; have NB639_641 := n5_; have NB641_639 := n6_; clear n0_ n1_ n2_ n3_ n4_ n5_ n6_; clear hb hbox hg; have hnb34 := NB641_639.out; have hnc34 := NB639_641.out; obtain ⟨hcz35_0, hcz35_1, hcz35_2⟩ := bc3 BK641; obtain ⟨hfz35_0, hfz35_1, hfz35_2⟩ := bf3 BK641) | (go_at_call 132; (with_reducible refine (vellumref03_Name.calls k1 ((rd_T115 l0_3 x3_1).f0) false _ A5.out).mono ?_); rintro e w36 ⟨rfl, hb⟩; have n0_ := Aside0.mk (blk_below (g := gb639) (o := .cells #[.string a0_0, .slice A0_1 l0_1.length c0_1, .slice A0_2 l0_2.length c0_2, .slice (some ad640) l0_3.length c0_3, .slice A0_4 l0_4.length c0_4] 65 (0, 0)) (by refine rp ?_; refine blk_far ?_ NB639_641.out _; refine rp ?_; refine blk_far ?_ NB639_641.out _; refine rp ?_; refine blk_far ?_ NB639_641.out _; (with_reducible repeat (first | refine blk_drewN ?_ _ | refine blk_drew ?_ | refine blk_alloc ?_ _)); exact BK639.out) hb); have n1_ := Aside0.mk (blk_below (g := gb641) (o := .cells #[.string ((rd_T115 l0_3 x3_1).f0), .slice A640_1 ((rd_T115 l0_3 x3_1).f1).length c640_1, .bool ((rd_T115 l0_3 x3_1).f2)] 115 (0, 0)) (by refine rp ?_; refine blk_put (cs := #[.string ((rd_T115 l0_3 x3_1).f0), .slice A640_1 ((rd_T115 l0_3 x3_1).f1).length c640_1, .bool false]) ?_ 2 _ rfl; refine rp ?_; refine blk_put (cs := #[.string ((rd_T115 l0_3 x3_1).f0), .slice none 0 0, .bool false]) ?_ 1 _ rfl; refine rp ?_; refine blk_put (cs := #[.string (⟨#[]⟩ : ByteArray), .slice none 0 0, .bool false]) ?_ 0 _ rfl; (with_reducible repeat (first | refine blk_drewN ?_ _ | refine blk_drew ?_ | refine blk_alloc ?_ _)); exact BK641.out) hb); have n2_ := Aside0.mk (below_step (bl HB) hb); clear BK639; clear BK641; clear HB; have BK639 := n0_; have BK641 := n1_; have HB := n2_; clear n0_ n1_ n2_; (try clear hb); (try clear hb2); (try clear hk); (try clear hi))); try go_wp2_with (first | ((with_reducible refine gate_dst (N := 4) rfl ?_); refine box_event rfl (N := 4) rfl (cs := #[.string (⟨#[]⟩ : ByteArray), .slice none 0 0, .bool false]) (t := 115) gs ?_; intro gb641 hg w33 hbox hb; have n0_ := Aside0.mk (blk_below (bk BK639) hb); have n1_ := Aside0.mk (below_step (bl HB) hb); have n2_ := Aside0.mk (hbox); have n3_ := Aside0.mk ((by rw [hg]; exact (below_size (bl HB)) : w.heap.size ≤ gb641)); have n4_ := Aside0.mk ((by rw [hg]; exact (below_size (bl HB)) : w.heap.size ≤ gb641)); have n5_ := Aside0.mk ((by rw [hg]; exact Nat.ne_of_lt (blk_lt (bk BK639)) : gb639 ≠ gb641)); have n6_ := Aside0.mk ((by rw [hg]; exact Nat.ne_of_gt (blk_lt (bk BK639)) : gb641 ≠ gb639)); clear BK639; clear HB; have BK639 := n0_; have HB := n1_; have BK641 := n2_; have GW641 := n3_; have GE641 := n4_; have NB639_641 := n5_; have NB641_639 := n6_; clear n0_ n1_ n2_ n3_ n4_ n5_ n6_; clear hb hbox hg; have hnb34 := NB641_639.out; have hnc34 := NB639_641.out; obtain ⟨hcz35_0, hcz35_1, hcz35_2⟩ := bc3 BK641; obtain ⟨hfz35_0, hfz35_1, hfz35_2⟩ := bf3 BK641) | (go_at_call 132; (with_reducible refine (vellumref03_Name.calls k1 ((rd_T115 l0_3 x3_1).f0) false _ A5.out).mono ?_); rintro e w36 ⟨rfl, hb⟩; have n0_ := Aside0.mk (blk_below (g := gb639) (o := .cells #[.string a0_0, .slice A0_1 l0_1.length c0_1, .slice A0_2 l0_2.length c0_2, .slice (some ad640) l0_3.length c0_3, .slice A0_4 l0_4.length c0_4] 65 (0, 0)) (by refine rp ?_; refine blk_far ?_ NB639_641.out _; refine rp ?_; refine blk_far ?_ NB639_641.out _; refine rp ?_; refine blk_far ?_ NB639_641.out _; (with_reducible repeat (first | refine blk_drewN ?_ _ | refine blk_drew ?_ | refine blk_alloc ?_ _)); exact BK639.out) hb); have n1_ := Aside0.mk (blk_below (g := gb641) (o := .cells #[.string ((rd_T115 l0_3 x3_1).f0), .slice A640_1 ((rd_T115 l0_3 x3_1).f1).length c640_1, .bool ((rd_T115 l0_3 x3_1).f2)] 115 (0, 0)) (by refine rp ?_; refine blk_put (cs := #[.string ((rd_T115 l0_3 x3_1).f0), .slice A640_1 ((rd_T115 l0_3 x3_1).f1).length c640_1, .bool false]) ?_ 2 _ rfl; refine rp ?_; refine blk_put (cs := #[.string ((rd_T115 l0_3 x3_1).f0), .slice none 0 0, .bool false]) ?_ 1 _ rfl; refine rp ?_; refine blk_put (cs := #[.string (⟨#[]⟩ : ByteArray), .slice none 0 0, .bool false]) ?_ 0 _ rfl; (with_reducible repeat (first | refine blk_drewN ?_ _ | refine blk_drew ?_ | refine blk_alloc ?_ _)); exact BK641.out) hb); have n2_ := Aside0.mk (below_step (bl HB) hb); clear BK639; clear BK641; clear HB; have BK639 := n0_; have BK641 := n1_; have HB := n2_; clear n0_ n1_ n2_; (try clear hb); (try clear hb2); (try clear hk); (try clear hi))))
            go_ret
            exact ⟨er, bl HB⟩
        · rw [if_neg c4] at H
          exact absurd H (by simp)
      · rw [if_neg c3] at H
        have c3b0 : decide (x3_1 < (l0_3.length : Int)) = false := decide_eq_false c3
        clear c3
        obtain rfl := Option.some.inj H
        obtain ⟨hcz37_0, hcz37_1, hcz37_2, hcz37_3, hcz37_4⟩ := bc5 BK639
        obtain ⟨hfz37_0, hfz37_1, hfz37_2, hfz37_3, hfz37_4⟩ := bf5 BK639
        go_wp2
        repeat (go_quiet (fail); try go_wp2)
        go_ret
        exact ⟨er, bl HB⟩
end Go.Proofs.YtpiifdbicibelaaDoor.PA
end
section
namespace Go.Proofs.YtpiifdbicibelaaDoor.PA
open Go.RowKit Go.Proofs.YtpiifdbicibelaaDoorW.PrintWords Go.Proofs.YtpiifdbicibelaaDoorW.PrintLast Go.Proofs.YtpiifdbicibelaaDoorW.PrintMore
attribute [local go_sem] max2_int min2_int max_two min_two max_three min_three max_four min_four   -- for this text's walks alone
set_option linter.unusedVariables false
set_option linter.unusedSimpArgs false
mutual
def vellumref03_Check.j0 : Nat → Bool → ByteArray → List (S105) → List Int → List (S115) → List (S139) → Option (Int)
  | 0, _, _, _, _, _, _ => none
  | k + 1, x32, x646000, x646001, x646002, x646003, x646004 => if x32 = true then (some 2) else ((vellumref03_columns.f k x646000 x646001 x646002 x646003 x646004).bind fun t647 => (if t647 = 0 then ((vellumref03_some.f k x646000 x646001 x646002 x646003 x646004 x646002).bind fun t648 => (if t648 = true then (vellumref03_Check.l0 k 0 x646000 x646001 x646002 x646003 x646004) else (some 33))) else (some t647)))
def vellumref03_Check.l0 : Nat → Int → ByteArray → List (S105) → List Int → List (S115) → List (S139) → Option (Int)
  | 0, _, _, _, _, _, _ => none
  | k + 1, x4, x646000, x646001, x646002, x646003, x646004 => if x4 < (x646002.length : Int) then (if 0 ≤ x4 then (if 0 ≤ (rd x646002 x4) then (if (rd x646002 x4) < (x646001.length : Int) then (if (rd_T105 x646001 (rd x646002 x4)).f2 = true then (some 33) else (vellumref03_Check.l0 k (wrap64 (x4 + 1)) x646000 x646001 x646002 x646003 x646004)) else (none)) else (none)) else (none)) else ((vellumref03_indexes.f k x646000 x646001 x646002 x646003 x646004).bind fun t651 => (if t651 = 0 then (vellumref03_Check.l1 k 0 x646000 x646001 x646002 x646003 x646004) else (some t651)))
def vellumref03_Check.l1 : Nat → Int → ByteArray → List (S105) → List Int → List (S115) → List (S139) → Option (Int)
  | 0, _, _, _, _, _, _ => none
  | k + 1, x6, x646000, x646001, x646002, x646003, x646004 => if x6 < (x646004.length : Int) then (if 0 ≤ x6 then ((vellumref03_Name.f k ((rd_T139 x646004 x6).f1)).bind fun t653 => (if t653 = true then ((vellumref03_some.f k x646000 x646001 x646002 x646003 x646004 ((rd_T139 x646004 x6).f0)).bind fun t655 => (if t655 = true then (vellumref03_Check.l1 k (wrap64 (x6 + 1)) x646000 x646001 x646002 x646003 x646004) else (some 33))) else (some 30))) else (none)) else (some 0)
end
def vellumref03_Check.f (k : Nat) (a0_0 : ByteArray) (l0_1 : List (S105)) (l0_2 : List Int) (l0_3 : List (S115)) (l0_4 : List (S139)) : Option (Int) := (vellumref03_Name.f k a0_0).bind fun t646 => (if t646 = true then (if (l0_1.length : Int) < 1 then (vellumref03_Check.j0 k true a0_0 l0_1 l0_2 l0_3 l0_4) else (if (l0_1.length : Int) > 64 then (vellumref03_Check.j0 k true a0_0 l0_1 l0_2 l0_3 l0_4) else (if (l0_3.length : Int) > 16 then (vellumref03_Check.j0 k true a0_0 l0_1 l0_2 l0_3 l0_4) else (vellumref03_Check.j0 k (decide ((l0_4.length : Int) > 16)) a0_0 l0_1 l0_2 l0_3 l0_4)))) else (some 30))
def vellumref03_Check.T13 : Bool × List (List Nat × List Nat) := (true, [([], []), ([0], [0]), ([], []), ([2], [2]), ([], []), ([3, 4], [3, 4]), ([5], [5]), ([1, 6], [1, 6]), ([7], [7]), ([8], [8])])
def vellumref03_Check.B13 : List Nat := [0, 1, 0, 4, 0, 28, 60, 127, 255, 511]
theorem vellumref03_Check.tab13 : rtab .any (opsOf Tryd.f93 13) = vellumref03_Check.T13 := by kernel_rfl
theorem vellumref03_Check.bits13 : waitsOk vellumref03_Check.T13.2 vellumref03_Check.B13 = true := by kernel_rfl
def vellumref03_Check.T23 : Bool × List (List Nat × List Nat) := (true, [([], []), ([], []), ([1], [1]), ([], []), ([2, 3], [2, 3]), ([4], [4]), ([5], [5]), ([0, 6], [0, 6]), ([7], [7])])
def vellumref03_Check.B23 : List Nat := [0, 0, 2, 0, 14, 30, 62, 127, 255]
theorem vellumref03_Check.tab23 : rtab .any (opsOf Tryd.f93 23) = vellumref03_Check.T23 := by kernel_rfl
theorem vellumref03_Check.bits23 : waitsOk vellumref03_Check.T23.2 vellumref03_Check.B23 = true := by kernel_rfl
set_option maxHeartbeats 8000000 in
set_option maxRecDepth 100000 in
theorem vellumref03_Check.calls (k : Nat) (a0_0 : ByteArray) (A0_1 : Option Addr) (c0_1 : Nat) (l0_1 : List (S105)) (A0_2 : Option Addr) (c0_2 : Nat) (l0_2 : List Int) (A0_3 : Option Addr) (c0_3 : Nat) (l0_3 : List (S115)) (A0_4 : Option Addr) (c0_4 : Nat) (l0_4 : List (S139)) (r : Int) (w : World) (hr0_1 : Kd.C k105 w A0_1 l0_1.length l0_1) (hc0_1 : l0_1.length ≤ c0_1) (hr0_2 : Kd.C (Kd.int .i64) w A0_2 l0_2.length l0_2) (hc0_2 : l0_2.length ≤ c0_2) (hr0_3 : Kd.C k115 w A0_3 l0_3.length l0_3) (hc0_3 : l0_3.length ≤ c0_3) (hr0_4 : Kd.C k139 w A0_4 l0_4.length l0_4) (hc0_4 : l0_4.length ≤ c0_4) (hG : Glob w) (h : vellumref03_Check.f k a0_0 l0_1 l0_2 l0_3 l0_4 = some r) :
    Calls Tryd.prog 93 #[.agg #[.string a0_0, .slice A0_1 l0_1.length c0_1, .slice A0_2 l0_2.length c0_2, .slice A0_3 l0_3.length c0_3, .slice A0_4 l0_4.length c0_4]] w fun e w' => e = .returned (.int .i64 r) ∧ Below w.heap.size w w' := by
  have hu65 := Tryd.underlying65
  have HR0_1 := Aside0.mk hr0_1
  have HC0_1 := Aside0.mk hc0_1
  clear hr0_1 hc0_1
  have HR0_2 := Aside0.mk hr0_2
  have HC0_2 := Aside0.mk hc0_2
  clear hr0_2 hc0_2
  have HR0_3 := Aside0.mk hr0_3
  have HC0_3 := Aside0.mk hc0_3
  clear hr0_3 hc0_3
  have HR0_4 := Aside0.mk hr0_4
  have HC0_4 := Aside0.mk hc0_4
  clear hr0_4 hc0_4
  have HG := Aside0.mk hG
  clear hG
  have HB := Aside0.mk (Below.refl w.heap.size w)
  have H : ((vellumref03_Name.f k a0_0).bind fun t646 => (if t646 = true then (if (l0_1.length : Int) < 1 then (vellumref03_Check.j0 k true a0_0 l0_1 l0_2 l0_3 l0_4) else (if (l0_1.length : Int) > 64 then (vellumref03_Check.j0 k true a0_0 l0_1 l0_2 l0_3 l0_4) else (if (l0_3.length : Int) > 16 then (vellumref03_Check.j0 k true a0_0 l0_1 l0_2 l0_3 l0_4) else (vellumref03_Check.j0 k (decide ((l0_4.length : Int) > 16)) a0_0 l0_1 l0_2 l0_3 l0_4)))) else (some 30))) = some r := h
  clear h
  replace H := Option.bind_eq_some_iff.mp H
  obtain ⟨t646, A20, H⟩ := H
  replace H : (if t646 = true then (if (l0_1.length : Int) < 1 then (vellumref03_Check.j0 k true a0_0 l0_1 l0_2 l0_3 l0_4) else (if (l0_1.length : Int) > 64 then (vellumref03_Check.j0 k true a0_0 l0_1 l0_2 l0_3 l0_4) else (if (l0_3.length : Int) > 16 then (vellumref03_Check.j0 k true a0_0 l0_1 l0_2 l0_3 l0_4) else (vellumref03_Check.j0 k (decide ((l0_4.length : Int) > 16)) a0_0 l0_1 l0_2 l0_3 l0_4)))) else (some 30)) = some r := H
  have A2 := Aside0.mk A20
  clear A20
  by_cases c3 : t646 = true
  · subst c3
    have H1 : (if (l0_1.length : Int) < 1 then (vellumref03_Check.j0 k true a0_0 l0_1 l0_2 l0_3 l0_4) else (if (l0_1.length : Int) > 64 then (vellumref03_Check.j0 k true a0_0 l0_1 l0_2 l0_3 l0_4) else (if (l0_3.length : Int) > 16 then (vellumref03_Check.j0 k true a0_0 l0_1 l0_2 l0_3 l0_4) else (vellumref03_Check.j0 k (decide ((l0_4.length : Int) > 16)) a0_0 l0_1 l0_2 l0_3 l0_4)))) = some r := by rw [if_pos rfl] at H; exact H
    clear H
    have H := H1
    clear H1
    have HC4 := Aside0.mk H
    clear H
    go_enter Tryd.func93, Tryd.ntmps93
    go_upto_region 3 with (first | ((with_reducible refine gate_dst (N := 1) rfl ?_); (try (refine gate_guard (by rfl) ?_; dsimp only)); refine box_event rfl (N := 1) rfl (cs := #[.string a0_0, .slice A0_1 l0_1.length c0_1, .slice A0_2 l0_2.length c0_2, .slice A0_3 l0_3.length c0_3, .slice A0_4 l0_4.length c0_4]) (t := 65) gs ?_; intro gb645 hg w5 hbox hb; have n0_ := Aside0.mk (below_step (bl HB) hb); have n1_ := Aside0.mk (hbox); have n2_ := Aside0.mk ((by rw [hg]; exact (below_size (bl HB)) : w.heap.size ≤ gb645)); have n3_ := Aside0.mk ((by rw [hg]; exact (below_size (bl HB)) : w.heap.size ≤ gb645)); clear HB; have HB := n0_; have BK645 := n1_; have GW645 := n2_; have GE645 := n3_; clear n0_ n1_ n2_ n3_; clear hb hbox hg; obtain ⟨hcz6_0, hcz6_1, hcz6_2, hcz6_3, hcz6_4⟩ := bc5 BK645; obtain ⟨hfz6_0, hfz6_1, hfz6_2, hfz6_3, hfz6_4⟩ := bf5 BK645) | ((with_reducible refine gate_callee (f := 132) rfl ?_); refine goesL_ (some 9) rfl rfl Tryd.func132 (by kernel_rfl) rfl #[.string a0_0] rfl (by (try simp only [List.map_toArray, List.map_cons, List.map_nil]); first | done | rfl | (simp only [List.length_drop, List.length_take]; rfl)) ?_; (with_reducible refine (vellumref03_Name.calls k a0_0 true _ A2.out).mono ?_); rintro e w7 ⟨rfl, hb⟩; refine ⟨_, rfl, ?_⟩; have n0_ := Aside0.mk (blk_below (bk BK645) hb); have n1_ := Aside0.mk (below_step (bl HB) hb); clear BK645; clear HB; have BK645 := n0_; have HB := n1_; clear n0_ n1_; (try clear hb); (try clear hb2); (try clear hk); (try clear hi)))
    (try simp only [Act.put, List.setIfInBounds_toArray, List.set_cons_zero, List.set_cons_succ])
    go_cut [32] (fun v32 wc => ∃ (kq : Nat) (x32_3 : Bool), v32 = .bool x32_3 ∧ Aside0 (vellumref03_Check.j0 kq x32_3 a0_0 l0_1 l0_2 l0_3 l0_4 = some r) ∧ Aside0 (kq ≤ k) ∧ Aside0 (wc.heap[gb645]? = some (.cells #[.string a0_0, (.slice A0_1 l0_1.length c0_1), (.slice A0_2 l0_2.length c0_2), (.slice A0_3 l0_3.length c0_3), (.slice A0_4 l0_4.length c0_4)] 65 (0, 0))) ∧ Aside0 (Below w.heap.size w wc))
    case first =>
      have H := HC4.out
      clear HC4
      by_cases c8 : (l0_1.length : Int) < 1
      · rw [if_pos c8] at H
        have c8b0 : decide ((l0_1.length : Int) < 1) = true := decide_eq_true c8
        have c8b1 : decide (l0_1.length < 1) = true := decide_eq_true (by omega)
        clear c8
        (first | rw [c8b0] | (simp only [i64_w, i32_w]; rw [c8b0]) | skip)
        have H' := Aside0.mk H
        clear H
        obtain ⟨hcz9_0, hcz9_1, hcz9_2, hcz9_3, hcz9_4⟩ := bc5 BK645
        obtain ⟨hfz9_0, hfz9_1, hfz9_2, hfz9_3, hfz9_4⟩ := bf5 BK645
        go_wp2
        go_meet
        case rel => exact ⟨_, (true), eb, H', ⟨by first | omega | exact Nat.le_refl _⟩, ⟨bk BK645⟩, ⟨bl HB⟩⟩
      · rw [if_neg c8] at H
        have c8b0 : decide ((l0_1.length : Int) < 1) = false := decide_eq_false c8
        have c8b1 : decide (l0_1.length < 1) = false := decide_eq_false (by omega)
        clear c8
        (first | rw [c8b0] | (simp only [i64_w, i32_w]; rw [c8b0]) | skip)
        by_cases c10 : (l0_1.length : Int) > 64
        · rw [if_pos c10] at H
          have c10b0 : decide (64 < (l0_1.length : Int)) = true := decide_eq_true c10
          have c10b1 : decide (64 < l0_1.length) = true := decide_eq_true (by omega)
          clear c10
          have H' := Aside0.mk H
          clear H
          obtain ⟨hcz11_0, hcz11_1, hcz11_2, hcz11_3, hcz11_4⟩ := bc5 BK645
          obtain ⟨hfz11_0, hfz11_1, hfz11_2, hfz11_3, hfz11_4⟩ := bf5 BK645
          go_wp2
          go_meet
          case rel => exact ⟨_, (true), eb, H', ⟨by first | omega | exact Nat.le_refl _⟩, ⟨bk BK645⟩, ⟨bl HB⟩⟩
        · rw [if_neg c10] at H
          have c10b0 : decide (64 < (l0_1.length : Int)) = false := decide_eq_false c10
          have c10b1 : decide (64 < l0_1.length) = false := decide_eq_false (by omega)
          clear c10
          by_cases c12 : (l0_3.length : Int) > 16
          · rw [if_pos c12] at H
            have c12b0 : decide (16 < (l0_3.length : Int)) = true := decide_eq_true c12
            have c12b1 : decide (16 < l0_3.length) = true := decide_eq_true (by omega)
            clear c12
            have H' := Aside0.mk H
            clear H
            obtain ⟨hcz13_0, hcz13_1, hcz13_2, hcz13_3, hcz13_4⟩ := bc5 BK645
            obtain ⟨hfz13_0, hfz13_1, hfz13_2, hfz13_3, hfz13_4⟩ := bf5 BK645
            go_wp2
            go_meet
            case rel => exact ⟨_, (true), eb, H', ⟨by first | omega | exact Nat.le_refl _⟩, ⟨bk BK645⟩, ⟨bl HB⟩⟩
          · rw [if_neg c12] at H
            have c12b0 : decide (16 < (l0_3.length : Int)) = false := decide_eq_false c12
            have c12b1 : decide (16 < l0_3.length) = false := decide_eq_false (by omega)
            clear c12
            have H' := Aside0.mk H
            clear H
            obtain ⟨hcz14_0, hcz14_1, hcz14_2, hcz14_3, hcz14_4⟩ := bc5 BK645
            obtain ⟨hfz14_0, hfz14_1, hfz14_2, hfz14_3, hfz14_4⟩ := bf5 BK645
            go_wp2
            go_meet
            case rel => exact ⟨_, (decide ((l0_4.length : Int) > 16)), eb, H', ⟨by first | omega | exact Nat.le_refl _⟩, ⟨bk BK645⟩, ⟨bl HB⟩⟩
    case rest =>
      clear HC4
      try clear c1
      try clear p2
      try clear c3
      try clear c8
      try clear c8b0
      try clear c8b1
      try clear c9
      try clear c10
      try clear c10b0
      try clear c10b1
      try clear c12
      try clear c12b0
      try clear c12b1
      try clear c13
      try clear hcz11_0
      try clear hcz11_1
      try clear hcz11_2
      try clear hcz11_3
      try clear hcz11_4
      try clear hcz13_0
      try clear hcz13_1
      try clear hcz13_2
      try clear hcz13_3
      try clear hcz13_4
      try clear hcz14_0
      try clear hcz14_1
      try clear hcz14_2
      try clear hcz14_3
      try clear hcz14_4
      try clear hcz6_0
      try clear hcz6_1
      try clear hcz6_2
      try clear hcz6_3
      try clear hcz6_4
      try clear hcz9_0
      try clear hcz9_1
      try clear hcz9_2
      try clear hcz9_3
      try clear hcz9_4
      try clear hfz11_0
      try clear hfz11_1
      try clear hfz11_2
      try clear hfz11_3
      try clear hfz11_4
      try clear hfz13_0
      try clear hfz13_1
      try clear hfz13_2
      try clear hfz13_3
      try clear hfz13_4
      try clear hfz14_0
      try clear hfz14_1
      try clear hfz14_2
      try clear hfz14_3
      try clear hfz14_4
      try clear hfz6_0
      try clear hfz6_1
      try clear hfz6_2
      try clear hfz6_3
      try clear hfz6_4
      try clear hfz9_0
      try clear hfz9_1
      try clear hfz9_2
      try clear hfz9_3
      try clear hfz9_4
      obtain ⟨kq, x32_3, rfl, HA, HJ3, BK645, HB⟩ := hcut
      cases kq with
      | zero => exact absurd HA.out (by simp [vellumref03_Check.j0])
      | succ kj3 =>
        have H := HA.out
        clear HA
        simp only [vellumref03_Check.j0] at H
        by_cases c15 : x32_3 = true
        · subst c15
          have H1 : (some 2) = some r := by rw [if_pos rfl] at H; exact H
          clear H
          have H := H1
          clear H1
          obtain rfl := Option.some.inj H
          go_wp2
          go_ret
          exact ⟨er, bl HB⟩
        · replace c15 := Bool.eq_false_iff.mpr c15
          subst c15
          have H1 : ((vellumref03_columns.f kj3 a0_0 l0_1 l0_2 l0_3 l0_4).bind fun t647 => (if t647 = 0 then ((vellumref03_some.f kj3 a0_0 l0_1 l0_2 l0_3 l0_4 l0_2).bind fun t648 => (if t648 = true then (vellumref03_Check.l0 kj3 0 a0_0 l0_1 l0_2 l0_3 l0_4) else (some 33))) else (some t647))) = some r := by rw [if_neg (show ¬ (false = true) by decide)] at H; exact H
          clear H
          have H := H1
          clear H1
          replace H := Option.bind_eq_some_iff.mp H
          obtain ⟨t647, A160, H⟩ := H
          replace H : (if t647 = 0 then ((vellumref03_some.f kj3 a0_0 l0_1 l0_2 l0_3 l0_4 l0_2).bind fun t648 => (if t648 = true then (vellumref03_Check.l0 kj3 0 a0_0 l0_1 l0_2 l0_3 l0_4) else (some 33))) else (some t647)) = some r := H
          have A16 := Aside0.mk A160
          clear A160
          by_cases c17 : t647 = 0
          · rw [if_pos c17] at H
            have c17b0 : (t647 == 0) = true := beq_iff_eq.mpr c17
            have c17b1 : (t647 != 0) = false := bne_eq_false_iff_eq.mpr c17
            clear c17
            replace H := Option.bind_eq_some_iff.mp H
            obtain ⟨t648, A180, H⟩ := H
            replace H : (if t648 = true then (vellumref03_Check.l0 kj3 0 a0_0 l0_1 l0_2 l0_3 l0_4) else (some 33)) = some r := H
            have A18 := Aside0.mk A180
            clear A180
            by_cases c19 : t648 = true
            · subst c19
              have H1 : (vellumref03_Check.l0 kj3 0 a0_0 l0_1 l0_2 l0_3 l0_4) = some r := by rw [if_pos rfl] at H; exact H
              clear H
              have H := H1
              clear H1
              have H' := Aside0.mk H
              clear H
              obtain ⟨hcz20_0, hcz20_1, hcz20_2, hcz20_3, hcz20_4⟩ := bc5 BK645
              obtain ⟨hfz20_0, hfz20_1, hfz20_2, hfz20_3, hfz20_4⟩ := bf5 BK645
              go_wp2_with (first | ((with_reducible refine gate_callee (f := 133) rfl ?_); refine goesL_ (some 34) rfl rfl Tryd.func133 (by kernel_rfl) rfl #[.agg #[.string a0_0, .slice A0_1 l0_1.length c0_1, .slice A0_2 l0_2.length c0_2, .slice A0_3 l0_3.length c0_3, .slice A0_4 l0_4.length c0_4]] rfl (by (try simp only [List.map_toArray, List.map_cons, List.map_nil]); first | done | rfl | (simp only [List.length_drop, List.length_take]; rfl)) ?_; (with_reducible refine (vellumref03_columns.calls kj3 a0_0 _ _ l0_1 _ _ l0_2 _ _ l0_3 _ _ l0_4 t647 _ (Kd.cb HR0_1 HB) HC0_1.out (Kd.cb HR0_2 HB) HC0_2.out (Kd.cb HR0_3 HB) HC0_3.out (Kd.cb HR0_4 HB) HC0_4.out (Glob.below HG.out (bl HB)) A16.out).mono ?_); rintro e w21 ⟨rfl, hb⟩; refine ⟨_, rfl, ?_⟩; have n0_ := Aside0.mk (blk_below (bk BK645) hb); have n1_ := Aside0.mk (below_step (bl HB) hb); clear BK645; clear HB; have BK645 := n0_; have HB := n1_; clear n0_ n1_; (try clear hb); (try clear hb2); (try clear hk); (try clear hi); obtain ⟨hcz22_0, hcz22_1, hcz22_2, hcz22_3, hcz22_4⟩ := bc5 BK645; obtain ⟨hfz22_0, hfz22_1, hfz22_2, hfz22_3, hfz22_4⟩ := bf5 BK645) | ((with_reducible refine gate_callee (f := 134) rfl ?_); refine goesL_ (some 41) rfl rfl Tryd.func134 (by kernel_rfl) rfl #[.agg #[.string a0_0, .slice A0_1 l0_1.length c0_1, .slice A0_2 l0_2.length c0_2, .slice A0_3 l0_3.length c0_3, .slice A0_4 l0_4.length c0_4], .slice A0_2 l0_2.length c0_2] rfl (by (try simp only [List.map_toArray, List.map_cons, List.map_nil]); first | done | rfl | (simp only [List.length_drop, List.length_take]; rfl)) ?_; (with_reducible refine (vellumref03_some.calls kj3 a0_0 _ _ l0_1 _ _ l0_2 _ _ l0_3 _ _ l0_4 _ _ l0_2 true _ (Kd.cb HR0_1 HB) HC0_1.out (Kd.cb HR0_2 HB) HC0_2.out (Kd.cb HR0_3 HB) HC0_3.out (Kd.cb HR0_4 HB) HC0_4.out (Kd.cb HR0_2 HB) HC0_2.out A18.out).mono ?_); rintro e w23 ⟨rfl, hb⟩; refine ⟨_, rfl, ?_⟩; have n0_ := Aside0.mk (blk_below (bk BK645) hb); have n1_ := Aside0.mk (below_step (bl HB) hb); clear BK645; clear HB; have BK645 := n0_; have HB := n1_; clear n0_ n1_; (try clear hb); (try clear hb2); (try clear hk); (try clear hi)))
              go_loopg [4] kj3 (fun kq v4 w' => ∃ (x4_2 : Int), v4 = .int .i64 x4_2 ∧ Aside0 (vellumref03_Check.l0 kq x4_2 a0_0 l0_1 l0_2 l0_3 l0_4 = some r) ∧ Aside0 (kq ≤ kj3) ∧ Aside0 (w'.heap[gb645]? = some (.cells #[.string a0_0, (.slice A0_1 l0_1.length c0_1), (.slice A0_2 l0_2.length c0_2), (.slice A0_3 l0_3.length c0_3), (.slice A0_4 l0_4.length c0_4)] 65 (0, 0))) ∧ Aside0 (Below w.heap.size w w'))
              case atStart => exact ⟨(0), eb, H', ⟨Nat.le_refl _⟩, ⟨bk BK645⟩, ⟨bl HB⟩⟩
              case round =>
                clear H'
                try clear c1
                try clear p2
                try clear c3
                try clear c8
                try clear c8b0
                try clear c8b1
                try clear c9
                try clear c10
                try clear c10b0
                try clear c10b1
                try clear c12
                try clear c12b0
                try clear c12b1
                try clear c13
                try clear c15
                try clear c17
                try clear c17b0
                try clear c17b1
                try clear c19
                try clear hcz11_0
                try clear hcz11_1
                try clear hcz11_2
                try clear hcz11_3
                try clear hcz11_4
                try clear hcz13_0
                try clear hcz13_1
                try clear hcz13_2
                try clear hcz13_3
                try clear hcz13_4
                try clear hcz14_0
                try clear hcz14_1
                try clear hcz14_2
                try clear hcz14_3
                try clear hcz14_4
                try clear hcz20_0
                try clear hcz20_1
                try clear hcz20_2
                try clear hcz20_3
                try clear hcz20_4
                try clear hcz22_0
                try clear hcz22_1
                try clear hcz22_2
                try clear hcz22_3
                try clear hcz22_4
                try clear hcz6_0
                try clear hcz6_1
                try clear hcz6_2
                try clear hcz6_3
                try clear hcz6_4
                try clear hcz9_0
                try clear hcz9_1
                try clear hcz9_2
                try clear hcz9_3
                try clear hcz9_4
                try clear hfz11_0
                try clear hfz11_1
                try clear hfz11_2
                try clear hfz11_3
                try clear hfz11_4
                try clear hfz13_0
                try clear hfz13_1
                try clear hfz13_2
                try clear hfz13_3
                try clear hfz13_4
                try clear hfz14_0
                try clear hfz14_1
                try clear hfz14_2
                try clear hfz14_3
                try clear hfz14_4
                try clear hfz20_0
                try clear hfz20_1
                try clear hfz20_2
                try clear hfz20_3
                try clear hfz20_4
                try clear hfz22_0
                try clear hfz22_1
                try clear hfz22_2
                try clear hfz22_3
                try clear hfz22_4
                try clear hfz6_0
                try clear hfz6_1
                try clear hfz6_2
                try clear hfz6_3
                try clear hfz6_4
                try clear hfz9_0
                try clear hfz9_1
                try clear hfz9_2
                try clear hfz9_3
                try clear hfz9_4
                try clear p2
                obtain ⟨x4_2, rfl, HA, HK2, BK645, HB⟩ := hrel
                cases gk with
                | zero => exact absurd HA.out (by simp [vellumref03_Check.l0])
                | succ k2 =>
                  have H := HA.out
                  clear HA
                  simp only [vellumref03_Check.l0] at H
                  by_cases c24 : x4_2 < (l0_2.length : Int)
                  · rw [if_pos c24] at H
                    have c24b0 : decide (x4_2 < (l0_2.length : Int)) = true := decide_eq_true c24
                    clear c24
                    by_cases c25 : 0 ≤ x4_2
                    · rw [if_pos c25] at H
                      have c25b0 : decide (0 ≤ x4_2) = true := decide_eq_true c25
                      clear c25
                      by_cases c26 : 0 ≤ (rd l0_2 x4_2)
                      · rw [if_pos c26] at H
                        have c26b0 : decide (0 ≤ (rd l0_2 x4_2)) = true := decide_eq_true c26
                        clear c26
                        by_cases c27 : (rd l0_2 x4_2) < (l0_1.length : Int)
                        · rw [if_pos c27] at H
                          have c27b0 : decide ((rd l0_2 x4_2) < (l0_1.length : Int)) = true := decide_eq_true c27
                          clear c27
                          obtain ⟨bq28, hbq28⟩ : ∃ b_ : Bool, b_ = ((rd_T105 l0_1 (rd l0_2 x4_2)).f2) := ⟨_, rfl⟩
                          replace H : (if bq28 = true then (some 33) else (vellumref03_Check.l0 k2 (wrap64 (x4_2 + 1)) a0_0 l0_1 l0_2 l0_3 l0_4)) = some r := by rw [← hbq28] at H; exact H
                          have Nbq28 := Aside0.mk hbq28
                          clear hbq28
                          by_cases c29 : bq28 = true
                          · subst c29
                            have H1 : (some 33) = some r := by rw [if_pos rfl] at H; exact H
                            clear H
                            have H := H1
                            clear H1
                            obtain rfl := Option.some.inj H
                            obtain ⟨hcz30_0, hcz30_1, hcz30_2, hcz30_3, hcz30_4⟩ := bc5 BK645
                            obtain ⟨hfz30_0, hfz30_1, hfz30_2, hfz30_3, hfz30_4⟩ := bf5 BK645
                            try go_wp2
                            have n0_ := Aside0.mk (blk_drew BK645.out)
                            have n1_ := Aside0.mk (below_drew1 HB.out)
                            clear BK645
                            clear HB
                            have BK645 := n0_
                            have HB := n1_
                            clear n0_ n1_
                            have p649 : 0 ≤ (x4_2 : Int) := of_decide_eq_true asm
                            have q649 : x4_2 < (l0_2.length : Int) := of_decide_eq_true asm
                            obtain ⟨ad649, e649, hx649_0⟩ := Kd.at_int HR0_2.out x4_2 p649 q649
                            have hw649_0 := hx649_0
                            cases e649
                            replace hx649_0 := (HB.out.cell (World.block_lt_of_cell? w _ hx649_0)).trans hx649_0
                            replace p649 := eq_true p649
                            replace q649 := eq_true q649
                            have p650 : 0 ≤ ((rd l0_2 x4_2) : Int) := of_decide_eq_true asm
                            have q650 : (rd l0_2 x4_2) < (l0_1.length : Int) := of_decide_eq_true asm
                            obtain ⟨ad650, e650, hx650_0, hx650_1, hx650_2, hx650_3, hx650_4, hx650_5, hx650_6⟩ := at_T105 HR0_1.out (rd l0_2 x4_2) p650 q650
                            have hw650_6 := hx650_6
                            have hw650_5 := hx650_5
                            have hw650_4 := hx650_4
                            have hw650_3 := hx650_3
                            have hw650_2 := hx650_2
                            have hw650_1 := hx650_1
                            have hw650_0 := hx650_0
                            (try rw [← Nbq28.out] at hx650_2)
                            (try rw [← Nbq28.out] at hw650_2)
                            cases e650
                            replace hx650_0 := (HB.out.cell (World.block_lt_of_cell? w _ hx650_0)).trans hx650_0
                            replace hx650_1 := (HB.out.cell (World.block_lt_of_cell? w _ hx650_1)).trans hx650_1
                            replace hx650_2 := (HB.out.cell (World.block_lt_of_cell? w _ hx650_2)).trans hx650_2
                            replace hx650_3 := (HB.out.cell (World.block_lt_of_cell? w _ hx650_3)).trans hx650_3
                            replace hx650_4 := (HB.out.cell (World.block_lt_of_cell? w _ hx650_4)).trans hx650_4
                            replace hx650_5 := (HB.out.cell (World.block_lt_of_cell? w _ hx650_5)).trans hx650_5
                            replace hx650_6 := (HB.out.cell (World.block_lt_of_cell? w _ hx650_6)).trans hx650_6
                            replace p650 := eq_true p650
                            replace q650 := eq_true q650
                            refine start_ (n := 10) (S := fun w' => w'.cell? ⟨gb645, 0, none⟩ = some (.string a0_0) ∧ w'.cell? ⟨gb645, 1, none⟩ = some (.slice (some ad650) l0_1.length c0_1) ∧ w'.cell? ⟨gb645, 2, none⟩ = some (.slice (some ad649) l0_2.length c0_2) ∧ w'.cell? ⟨gb645, 3, none⟩ = some (.slice A0_3 l0_3.length c0_3) ∧ w'.cell? ⟨gb645, 4, none⟩ = some (.slice A0_4 l0_4.length c0_4) ∧ w'.cell? (ad649.add (x4_2).toNat) = some (.int .i64 (rd l0_2 x4_2)) ∧ w'.cell? (ad650.add (((rd l0_2 x4_2)).toNat * 7)) = some (.string ((rd_T105 l0_1 (rd l0_2 x4_2)).f0)) ∧ w'.cell? ⟨(ad650.add (((rd l0_2 x4_2)).toNat * 7)).block, (ad650.add (((rd l0_2 x4_2)).toNat * 7)).off + 1, none⟩ = some (.int .i64 ((rd_T105 l0_1 (rd l0_2 x4_2)).f1)) ∧ w'.cell? ⟨(ad650.add (((rd l0_2 x4_2)).toNat * 7)).block, (ad650.add (((rd l0_2 x4_2)).toNat * 7)).off + 2, none⟩ = some (.bool true) ∧ w'.cell? ⟨(ad650.add (((rd l0_2 x4_2)).toNat * 7)).block, (ad650.add (((rd l0_2 x4_2)).toNat * 7)).off + 3, none⟩ = some (.int .i64 ((rd_T105 l0_1 (rd l0_2 x4_2)).f3.f0)) ∧ w'.cell? ⟨(ad650.add (((rd l0_2 x4_2)).toNat * 7)).block, (ad650.add (((rd l0_2 x4_2)).toNat * 7)).off + 4, none⟩ = some (.int .i64 ((rd_T105 l0_1 (rd l0_2 x4_2)).f3.f1)) ∧ w'.cell? ⟨(ad650.add (((rd l0_2 x4_2)).toNat * 7)).block, (ad650.add (((rd l0_2 x4_2)).toNat * 7)).off + 5, none⟩ = some (.float .f64 ((rd_T105 l0_1 (rd l0_2 x4_2)).f3.f2)) ∧ w'.cell? ⟨(ad650.add (((rd l0_2 x4_2)).toNat * 7)).block, (ad650.add (((rd l0_2 x4_2)).toNat * 7)).off + 6, none⟩ = some (.string ((rd_T105 l0_1 (rd l0_2 x4_2)).f3.f3))) (ds := []) (bb 0 10) (by kernel_rfl) rfl rfl ⟨(blk_cell BK645.out 0).trans rfl, (blk_cell BK645.out 1).trans rfl, (blk_cell BK645.out 2).trans rfl, (blk_cell BK645.out 3).trans rfl, (blk_cell BK645.out 4).trans rfl, ((HB.out.cell (World.block_lt_of_cell? w _ hw649_0)).trans hw649_0), ((HB.out.cell (World.block_lt_of_cell? w _ hw650_0)).trans hw650_0), ((HB.out.cell (World.block_lt_of_cell? w _ hw650_1)).trans hw650_1), ((HB.out.cell (World.block_lt_of_cell? w _ hw650_2)).trans hw650_2), ((HB.out.cell (World.block_lt_of_cell? w _ hw650_3)).trans hw650_3), ((HB.out.cell (World.block_lt_of_cell? w _ hw650_4)).trans hw650_4), ((HB.out.cell (World.block_lt_of_cell? w _ hw650_5)).trans hw650_5), ((HB.out.cell (World.block_lt_of_cell? w _ hw650_6)).trans hw650_6)⟩ (fun hHeld => ?_); refine with_tabW vellumref03_Check.tab13 vellumref03_Check.bits13 (fun HT_ HW_ => ?_)
                            generalize wr.drew = w31 at BK645 HB hx649_0 hx650_0 hx650_1 hx650_2 hx650_3 hx650_4 hx650_5 hx650_6 hHeld ⊢
                            refine pure_ (i := 0) (N := some 50) (v := ?_) (a' := ?_) (bb 1 10) rfl rfl (any_of HT_.out (by kernel_rfl)) (fun _ _ _ h => h) (Or.inl ⟨by rfl, ?_⟩) ?_ ?_
                            rotate_left
                            · intro w'
                              go_simp
                              with_reducible rfl
                            rotate_left
                            · simp only [Act.put, List.setIfInBounds_toArray, List.set_cons_zero, List.set_cons_succ, i64_w, i32_w]
                              rfl
                            refine pure_ (i := 2) (N := some 52) (v := ?_) (a' := ?_) #[true, false, true, false, false, false, false, false, false, false] rfl rfl (any_of HT_.out (by kernel_rfl)) (fun _ _ _ h => h) (Or.inl ⟨by rfl, ?_⟩) ?_ ?_
                            rotate_left
                            · intro w'
                              go_simp
                              with_reducible rfl
                            rotate_left
                            · simp only [Act.put, List.setIfInBounds_toArray, List.set_cons_zero, List.set_cons_succ, i64_w, i32_w]
                              rfl
                            refine pure_ (i := 4) (N := some 54) (v := ?_) (a' := ?_) #[true, false, true, false, true, false, false, false, false, false] rfl rfl (any_of HT_.out (by kernel_rfl)) (fun _ _ _ h => h) (Or.inl ⟨by rfl, ?_⟩) ?_ ?_
                            rotate_left
                            · intro w'
                              go_simp
                              with_reducible rfl
                            rotate_left
                            · simp only [Act.put, List.setIfInBounds_toArray, List.set_cons_zero, List.set_cons_succ, i64_w, i32_w]
                              rfl
                            refine take_ (i := 1) (N := some 51) (v := ?_) (a' := ?_) #[true, true, true, false, true, false, false, false, false, false] rfl rfl (take_ofW HT_.out HW_.out (by kernel_rfl)) (fun _ _ _ h => h) (Or.inl ⟨by rfl, ?_⟩) hHeld ?_ ?_
                            rotate_left
                            · rintro w' ⟨s0, s1, s2, s3, s4, s5, s6, s7, s8, s9, s10, s11, s12⟩
                              go_simp
                              with_reducible rfl
                            rotate_left
                            · simp only [Act.put, List.setIfInBounds_toArray, List.set_cons_zero, List.set_cons_succ, i64_w, i32_w]
                              rfl
                            refine take_ (i := 3) (N := some 53) (v := ?_) (a' := ?_) (bb 5 10) rfl rfl (take_ofW HT_.out HW_.out (by kernel_rfl)) (fun _ _ _ h => h) (Or.inl ⟨by rfl, ?_⟩) hHeld ?_ ?_
                            rotate_left
                            · rintro w' ⟨s0, s1, s2, s3, s4, s5, s6, s7, s8, s9, s10, s11, s12⟩
                              go_simp
                              with_reducible rfl
                            rotate_left
                            · simp only [Act.put, List.setIfInBounds_toArray, List.set_cons_zero, List.set_cons_succ, i64_w, i32_w]
                              rfl
                            refine pure_ (i := 5) (N := some 55) (v := ?_) (a' := ?_) (bb 6 10) rfl rfl (any_of HT_.out (by kernel_rfl)) (fun _ _ _ h => h) (Or.inl ⟨by rfl, ?_⟩) ?_ ?_
                            rotate_left
                            · intro w'
                              go_simp
                              with_reducible rfl
                            rotate_left
                            · simp only [Act.put, List.setIfInBounds_toArray, List.set_cons_zero, List.set_cons_succ, i64_w, i32_w]
                              rfl
                            refine take_ (i := 6) (N := some 56) (v := ?_) (a' := ?_) (bb 7 10) rfl rfl (take_ofW HT_.out HW_.out (by kernel_rfl)) (fun _ _ _ h => h) (Or.inl ⟨by rfl, ?_⟩) hHeld ?_ ?_
                            rotate_left
                            · rintro w' ⟨s0, s1, s2, s3, s4, s5, s6, s7, s8, s9, s10, s11, s12⟩
                              go_simp
                              with_reducible rfl
                            rotate_left
                            · simp only [Act.put, List.setIfInBounds_toArray, List.set_cons_zero, List.set_cons_succ, i64_w, i32_w]
                              rfl
                            refine pure_ (i := 7) (N := some 57) (v := ?_) (a' := ?_) (bb 8 10) rfl rfl (any_of HT_.out (by kernel_rfl)) (fun _ _ _ h => h) (Or.inl ⟨by rfl, ?_⟩) ?_ ?_
                            rotate_left
                            · intro w'
                              go_simp
                              with_reducible rfl
                            rotate_left
                            · simp only [Act.put, List.setIfInBounds_toArray, List.set_cons_zero, List.set_cons_succ, i64_w, i32_w]
                              rfl
                            refine pure_ (i := 8) (N := some 58) (v := ?_) (a' := ?_) (bb 9 10) rfl rfl (any_of HT_.out (by kernel_rfl)) (fun _ _ _ h => h) (Or.inl ⟨by rfl, ?_⟩) ?_ ?_
                            rotate_left
                            · intro w'
                              go_simp
                              with_reducible rfl
                            rotate_left
                            · simp only [Act.put, List.setIfInBounds_toArray, List.set_cons_zero, List.set_cons_succ, i64_w, i32_w]
                              rfl
                            refine take_ (i := 9) (N := some 59) (v := ?_) (a' := ?_) (bb 10 10) rfl rfl (take_ofW HT_.out HW_.out (by kernel_rfl)) (fun _ _ _ h => h) (Or.inl ⟨by rfl, ?_⟩) hHeld ?_ ?_
                            rotate_left
                            · rintro w' ⟨s0, s1, s2, s3, s4, s5, s6, s7, s8, s9, s10, s11, s12⟩
                              go_simp
                              with_reducible rfl
                            rotate_left
                            · simp only [Act.put, List.setIfInBounds_toArray, List.set_cons_zero, List.set_cons_succ, i64_w, i32_w]
                              rfl
                            refine done_ (done_of HT_.out (by kernel_rfl)) ?_
                            try go_wp2
                            go_ret
                            exact ⟨er, bl HB⟩
                          · replace c29 := Bool.eq_false_iff.mpr c29
                            subst c29
                            have H1 : (vellumref03_Check.l0 k2 (wrap64 (x4_2 + 1)) a0_0 l0_1 l0_2 l0_3 l0_4) = some r := by rw [if_neg (show ¬ (false = true) by decide)] at H; exact H
                            clear H
                            have H := H1
                            clear H1
                            have H' := Aside0.mk H
                            clear H
                            obtain ⟨hcz32_0, hcz32_1, hcz32_2, hcz32_3, hcz32_4⟩ := bc5 BK645
                            obtain ⟨hfz32_0, hfz32_1, hfz32_2, hfz32_3, hfz32_4⟩ := bf5 BK645
                            try go_wp2
                            have n0_ := Aside0.mk (blk_drew BK645.out)
                            have n1_ := Aside0.mk (below_drew1 HB.out)
                            clear BK645
                            clear HB
                            have BK645 := n0_
                            have HB := n1_
                            clear n0_ n1_
                            have p649 : 0 ≤ (x4_2 : Int) := of_decide_eq_true asm
                            have q649 : x4_2 < (l0_2.length : Int) := of_decide_eq_true asm
                            obtain ⟨ad649, e649, hx649_0⟩ := Kd.at_int HR0_2.out x4_2 p649 q649
                            have hw649_0 := hx649_0
                            cases e649
                            replace hx649_0 := (HB.out.cell (World.block_lt_of_cell? w _ hx649_0)).trans hx649_0
                            replace p649 := eq_true p649
                            replace q649 := eq_true q649
                            have p650 : 0 ≤ ((rd l0_2 x4_2) : Int) := of_decide_eq_true asm
                            have q650 : (rd l0_2 x4_2) < (l0_1.length : Int) := of_decide_eq_true asm
                            obtain ⟨ad650, e650, hx650_0, hx650_1, hx650_2, hx650_3, hx650_4, hx650_5, hx650_6⟩ := at_T105 HR0_1.out (rd l0_2 x4_2) p650 q650
                            have hw650_6 := hx650_6
                            have hw650_5 := hx650_5
                            have hw650_4 := hx650_4
                            have hw650_3 := hx650_3
                            have hw650_2 := hx650_2
                            have hw650_1 := hx650_1
                            have hw650_0 := hx650_0
                            (try rw [← Nbq28.out] at hx650_2)
                            (try rw [← Nbq28.out] at hw650_2)
                            cases e650
                            replace hx650_0 := (HB.out.cell (World.block_lt_of_cell? w _ hx650_0)).trans hx650_0
                            replace hx650_1 := (HB.out.cell (World.block_lt_of_cell? w _ hx650_1)).trans hx650_1
                            replace hx650_2 := (HB.out.cell (World.block_lt_of_cell? w _ hx650_2)).trans hx650_2
                            replace hx650_3 := (HB.out.cell (World.block_lt_of_cell? w _ hx650_3)).trans hx650_3
                            replace hx650_4 := (HB.out.cell (World.block_lt_of_cell? w _ hx650_4)).trans hx650_4
                            replace hx650_5 := (HB.out.cell (World.block_lt_of_cell? w _ hx650_5)).trans hx650_5
                            replace hx650_6 := (HB.out.cell (World.block_lt_of_cell? w _ hx650_6)).trans hx650_6
                            replace p650 := eq_true p650
                            replace q650 := eq_true q650
                            refine start_ (n := 10) (S := fun w' => w'.cell? ⟨gb645, 0, none⟩ = some (.string a0_0) ∧ w'.cell? ⟨gb645, 1, none⟩ = some (.slice (some ad650) l0_1.length c0_1) ∧ w'.cell? ⟨gb645, 2, none⟩ = some (.slice (some ad649) l0_2.length c0_2) ∧ w'.cell? ⟨gb645, 3, none⟩ = some (.slice A0_3 l0_3.length c0_3) ∧ w'.cell? ⟨gb645, 4, none⟩ = some (.slice A0_4 l0_4.length c0_4) ∧ w'.cell? (ad649.add (x4_2).toNat) = some (.int .i64 (rd l0_2 x4_2)) ∧ w'.cell? (ad650.add (((rd l0_2 x4_2)).toNat * 7)) = some (.string ((rd_T105 l0_1 (rd l0_2 x4_2)).f0)) ∧ w'.cell? ⟨(ad650.add (((rd l0_2 x4_2)).toNat * 7)).block, (ad650.add (((rd l0_2 x4_2)).toNat * 7)).off + 1, none⟩ = some (.int .i64 ((rd_T105 l0_1 (rd l0_2 x4_2)).f1)) ∧ w'.cell? ⟨(ad650.add (((rd l0_2 x4_2)).toNat * 7)).block, (ad650.add (((rd l0_2 x4_2)).toNat * 7)).off + 2, none⟩ = some (.bool false) ∧ w'.cell? ⟨(ad650.add (((rd l0_2 x4_2)).toNat * 7)).block, (ad650.add (((rd l0_2 x4_2)).toNat * 7)).off + 3, none⟩ = some (.int .i64 ((rd_T105 l0_1 (rd l0_2 x4_2)).f3.f0)) ∧ w'.cell? ⟨(ad650.add (((rd l0_2 x4_2)).toNat * 7)).block, (ad650.add (((rd l0_2 x4_2)).toNat * 7)).off + 4, none⟩ = some (.int .i64 ((rd_T105 l0_1 (rd l0_2 x4_2)).f3.f1)) ∧ w'.cell? ⟨(ad650.add (((rd l0_2 x4_2)).toNat * 7)).block, (ad650.add (((rd l0_2 x4_2)).toNat * 7)).off + 5, none⟩ = some (.float .f64 ((rd_T105 l0_1 (rd l0_2 x4_2)).f3.f2)) ∧ w'.cell? ⟨(ad650.add (((rd l0_2 x4_2)).toNat * 7)).block, (ad650.add (((rd l0_2 x4_2)).toNat * 7)).off + 6, none⟩ = some (.string ((rd_T105 l0_1 (rd l0_2 x4_2)).f3.f3))) (ds := []) (bb 0 10) (by kernel_rfl) rfl rfl ⟨(blk_cell BK645.out 0).trans rfl, (blk_cell BK645.out 1).trans rfl, (blk_cell BK645.out 2).trans rfl, (blk_cell BK645.out 3).trans rfl, (blk_cell BK645.out 4).trans rfl, ((HB.out.cell (World.block_lt_of_cell? w _ hw649_0)).trans hw649_0), ((HB.out.cell (World.block_lt_of_cell? w _ hw650_0)).trans hw650_0), ((HB.out.cell (World.block_lt_of_cell? w _ hw650_1)).trans hw650_1), ((HB.out.cell (World.block_lt_of_cell? w _ hw650_2)).trans hw650_2), ((HB.out.cell (World.block_lt_of_cell? w _ hw650_3)).trans hw650_3), ((HB.out.cell (World.block_lt_of_cell? w _ hw650_4)).trans hw650_4), ((HB.out.cell (World.block_lt_of_cell? w _ hw650_5)).trans hw650_5), ((HB.out.cell (World.block_lt_of_cell? w _ hw650_6)).trans hw650_6)⟩ (fun hHeld => ?_); refine with_tabW vellumref03_Check.tab13 vellumref03_Check.bits13 (fun HT_ HW_ => ?_)
                            generalize wr.drew = w33 at BK645 HB hx649_0 hx650_0 hx650_1 hx650_2 hx650_3 hx650_4 hx650_5 hx650_6 hHeld ⊢
                            refine pure_ (i := 0) (N := some 50) (v := ?_) (a' := ?_) (bb 1 10) rfl rfl (any_of HT_.out (by kernel_rfl)) (fun _ _ _ h => h) (Or.inl ⟨by rfl, ?_⟩) ?_ ?_
                            rotate_left
                            · intro w'
                              go_simp
                              with_reducible rfl
                            rotate_left
                            · simp only [Act.put, List.setIfInBounds_toArray, List.set_cons_zero, List.set_cons_succ, i64_w, i32_w]
                              rfl
                            refine pure_ (i := 2) (N := some 52) (v := ?_) (a' := ?_) #[true, false, true, false, false, false, false, false, false, false] rfl rfl (any_of HT_.out (by kernel_rfl)) (fun _ _ _ h => h) (Or.inl ⟨by rfl, ?_⟩) ?_ ?_
                            rotate_left
                            · intro w'
                              go_simp
                              with_reducible rfl
                            rotate_left
                            · simp only [Act.put, List.setIfInBounds_toArray, List.set_cons_zero, List.set_cons_succ, i64_w, i32_w]
                              rfl
                            refine pure_ (i := 4) (N := some 54) (v := ?_) (a' := ?_) #[true, false, true, false, true, false, false, false, false, false] rfl rfl (any_of HT_.out (by kernel_rfl)) (fun _ _ _ h => h) (Or.inl ⟨by rfl, ?_⟩) ?_ ?_
                            rotate_left
                            · intro w'
                              go_simp
                              with_reducible rfl
                            rotate_left
                            · simp only [Act.put, List.setIfInBounds_toArray, List.set_cons_zero, List.set_cons_succ, i64_w, i32_w]
                              rfl
                            refine take_ (i := 1) (N := some 51) (v := ?_) (a' := ?_) #[true, true, true, false, true, false, false, false, false, false] rfl rfl (take_ofW HT_.out HW_.out (by kernel_rfl)) (fun _ _ _ h => h) (Or.inl ⟨by rfl, ?_⟩) hHeld ?_ ?_
                            rotate_left
                            · rintro w' ⟨s0, s1, s2, s3, s4, s5, s6, s7, s8, s9, s10, s11, s12⟩
                              go_simp
                              with_reducible rfl
                            rotate_left
                            · simp only [Act.put, List.setIfInBounds_toArray, List.set_cons_zero, List.set_cons_succ, i64_w, i32_w]
                              rfl
                            refine take_ (i := 3) (N := some 53) (v := ?_) (a' := ?_) (bb 5 10) rfl rfl (take_ofW HT_.out HW_.out (by kernel_rfl)) (fun _ _ _ h => h) (Or.inl ⟨by rfl, ?_⟩) hHeld ?_ ?_
                            rotate_left
                            · rintro w' ⟨s0, s1, s2, s3, s4, s5, s6, s7, s8, s9, s10, s11, s12⟩
                              go_simp
                              with_reducible rfl
                            rotate_left
                            · simp only [Act.put, List.setIfInBounds_toArray, List.set_cons_zero, List.set_cons_succ, i64_w, i32_w]
                              rfl
                            refine pure_ (i := 5) (N := some 55) (v := ?_) (a' := ?_) (bb 6 10) rfl rfl (any_of HT_.out (by kernel_rfl)) (fun _ _ _ h => h) (Or.inl ⟨by rfl, ?_⟩) ?_ ?_
                            rotate_left
                            · intro w'
                              go_simp
                              with_reducible rfl
                            rotate_left
                            · simp only [Act.put, List.setIfInBounds_toArray, List.set_cons_zero, List.set_cons_succ, i64_w, i32_w]
                              rfl
                            refine take_ (i := 6) (N := some 56) (v := ?_) (a' := ?_) (bb 7 10) rfl rfl (take_ofW HT_.out HW_.out (by kernel_rfl)) (fun _ _ _ h => h) (Or.inl ⟨by rfl, ?_⟩) hHeld ?_ ?_
                            rotate_left
                            · rintro w' ⟨s0, s1, s2, s3, s4, s5, s6, s7, s8, s9, s10, s11, s12⟩
                              go_simp
                              with_reducible rfl
                            rotate_left
                            · simp only [Act.put, List.setIfInBounds_toArray, List.set_cons_zero, List.set_cons_succ, i64_w, i32_w]
                              rfl
                            refine pure_ (i := 7) (N := some 57) (v := ?_) (a' := ?_) (bb 8 10) rfl rfl (any_of HT_.out (by kernel_rfl)) (fun _ _ _ h => h) (Or.inl ⟨by rfl, ?_⟩) ?_ ?_
                            rotate_left
                            · intro w'
                              go_simp
                              with_reducible rfl
                            rotate_left
                            · simp only [Act.put, List.setIfInBounds_toArray, List.set_cons_zero, List.set_cons_succ, i64_w, i32_w]
                              rfl
                            refine pure_ (i := 8) (N := some 58) (v := ?_) (a' := ?_) (bb 9 10) rfl rfl (any_of HT_.out (by kernel_rfl)) (fun _ _ _ h => h) (Or.inl ⟨by rfl, ?_⟩) ?_ ?_
                            rotate_left
                            · intro w'
                              go_simp
                              with_reducible rfl
                            rotate_left
                            · simp only [Act.put, List.setIfInBounds_toArray, List.set_cons_zero, List.set_cons_succ, i64_w, i32_w]
                              rfl
                            refine take_ (i := 9) (N := some 59) (v := ?_) (a' := ?_) (bb 10 10) rfl rfl (take_ofW HT_.out HW_.out (by kernel_rfl)) (fun _ _ _ h => h) (Or.inl ⟨by rfl, ?_⟩) hHeld ?_ ?_
                            rotate_left
                            · rintro w' ⟨s0, s1, s2, s3, s4, s5, s6, s7, s8, s9, s10, s11, s12⟩
                              go_simp
                              with_reducible rfl
                            rotate_left
                            · simp only [Act.put, List.setIfInBounds_toArray, List.set_cons_zero, List.set_cons_succ, i64_w, i32_w]
                              rfl
                            refine done_ (done_of HT_.out (by kernel_rfl)) ?_
                            try go_wp2
                            go_roundg k2
                            case measure => have := HJ3.out; have := HK2.out; omega
                            case rel => exact ⟨(wrap64 (x4_2 + 1)), eb, H', ⟨by have := HJ3.out; have := HK2.out; omega⟩, ⟨bk BK645⟩, ⟨bl HB⟩⟩
                        · rw [if_neg c27] at H
                          exact absurd H (by simp)
                      · rw [if_neg c26] at H
                        exact absurd H (by simp)
                    · rw [if_neg c25] at H
                      exact absurd H (by simp)
                  · rw [if_neg c24] at H
                    have c24b0 : decide (x4_2 < (l0_2.length : Int)) = false := decide_eq_false c24
                    clear c24
                    replace H := Option.bind_eq_some_iff.mp H
                    obtain ⟨t651, A340, H⟩ := H
                    replace H : (if t651 = 0 then (vellumref03_Check.l1 k2 0 a0_0 l0_1 l0_2 l0_3 l0_4) else (some t651)) = some r := H
                    have A34 := Aside0.mk A340
                    clear A340
                    by_cases c35 : t651 = 0
                    · rw [if_pos c35] at H
                      have c35b0 : (t651 == 0) = true := beq_iff_eq.mpr c35
                      have c35b1 : (t651 != 0) = false := bne_eq_false_iff_eq.mpr c35
                      clear c35
                      have H' := Aside0.mk H
                      clear H
                      obtain ⟨hcz36_0, hcz36_1, hcz36_2, hcz36_3, hcz36_4⟩ := bc5 BK645
                      obtain ⟨hfz36_0, hfz36_1, hfz36_2, hfz36_3, hfz36_4⟩ := bf5 BK645
                      go_wp2_with (first | ((with_reducible refine gate_callee (f := 135) rfl ?_); refine goesL_ (some 61) rfl rfl Tryd.func135 (by kernel_rfl) rfl #[.agg #[.string a0_0, .slice A0_1 l0_1.length c0_1, .slice A0_2 l0_2.length c0_2, .slice A0_3 l0_3.length c0_3, .slice A0_4 l0_4.length c0_4]] rfl (by (try simp only [List.map_toArray, List.map_cons, List.map_nil]); first | done | rfl | (simp only [List.length_drop, List.length_take]; rfl)) ?_; (with_reducible refine (vellumref03_indexes.calls k2 a0_0 _ _ l0_1 _ _ l0_2 _ _ l0_3 _ _ l0_4 t651 _ (Kd.cb HR0_1 HB) HC0_1.out (Kd.cb HR0_2 HB) HC0_2.out (Kd.cb HR0_3 HB) HC0_3.out (Kd.cb HR0_4 HB) HC0_4.out A34.out).mono ?_); rintro e w37 ⟨rfl, hb⟩; refine ⟨_, rfl, ?_⟩; have n0_ := Aside0.mk (blk_below (bk BK645) hb); have n1_ := Aside0.mk (below_step (bl HB) hb); clear BK645; clear HB; have BK645 := n0_; have HB := n1_; clear n0_ n1_; (try clear hb); (try clear hb2); (try clear hk); (try clear hi)))
                      go_loopg [6] k2 (fun kq v6 w' => ∃ (x6_3 : Int), v6 = .int .i64 x6_3 ∧ Aside0 (vellumref03_Check.l1 kq x6_3 a0_0 l0_1 l0_2 l0_3 l0_4 = some r) ∧ Aside0 (kq ≤ k2) ∧ Aside0 (w'.heap[gb645]? = some (.cells #[.string a0_0, (.slice A0_1 l0_1.length c0_1), (.slice A0_2 l0_2.length c0_2), (.slice A0_3 l0_3.length c0_3), (.slice A0_4 l0_4.length c0_4)] 65 (0, 0))) ∧ Aside0 (Below w.heap.size w w'))
                      case atStart => exact ⟨(0), eb, H', ⟨Nat.le_refl _⟩, ⟨bk BK645⟩, ⟨bl HB⟩⟩
                      case round =>
                        clear H'
                        try clear c1
                        try clear c2
                        try clear p2
                        try clear q2
                        try clear c3
                        try clear p6
                        try clear q6
                        try clear hx6
                        try clear c8
                        try clear c8b0
                        try clear c8b1
                        try clear c9
                        try clear c10
                        try clear c10b0
                        try clear c10b1
                        try clear c12
                        try clear c12b0
                        try clear c12b1
                        try clear c13
                        try clear c15
                        try clear c17
                        try clear c17b0
                        try clear c17b1
                        try clear c19
                        try clear c24
                        try clear c24b0
                        try clear c25
                        try clear c25b0
                        try clear c26
                        try clear c26b0
                        try clear c27
                        try clear c27b0
                        try clear q28
                        try clear c29
                        try clear c35
                        try clear c35b0
                        try clear c35b1
                        try clear hcz11_0
                        try clear hcz11_1
                        try clear hcz11_2
                        try clear hcz11_3
                        try clear hcz11_4
                        try clear hcz13_0
                        try clear hcz13_1
                        try clear hcz13_2
                        try clear hcz13_3
                        try clear hcz13_4
                        try clear hcz14_0
                        try clear hcz14_1
                        try clear hcz14_2
                        try clear hcz14_3
                        try clear hcz14_4
                        try clear hcz20_0
                        try clear hcz20_1
                        try clear hcz20_2
                        try clear hcz20_3
                        try clear hcz20_4
                        try clear hcz22_0
                        try clear hcz22_1
                        try clear hcz22_2
                        try clear hcz22_3
                        try clear hcz22_4
                        try clear hcz30_0
                        try clear hcz30_1
                        try clear hcz30_2
                        try clear hcz30_3
                        try clear hcz30_4
                        try clear hcz32_0
                        try clear hcz32_1
                        try clear hcz32_2
                        try clear hcz32_3
                        try clear hcz32_4
                        try clear hcz36_0
                        try clear hcz36_1
                        try clear hcz36_2
                        try clear hcz36_3
                        try clear hcz36_4
                        try clear hcz6_0
                        try clear hcz6_1
                        try clear hcz6_2
                        try clear hcz6_3
                        try clear hcz6_4
                        try clear hcz9_0
                        try clear hcz9_1
                        try clear hcz9_2
                        try clear hcz9_3
                        try clear hcz9_4
                        try clear hfz11_0
                        try clear hfz11_1
                        try clear hfz11_2
                        try clear hfz11_3
                        try clear hfz11_4
                        try clear hfz13_0
                        try clear hfz13_1
                        try clear hfz13_2
                        try clear hfz13_3
                        try clear hfz13_4
                        try clear hfz14_0
                        try clear hfz14_1
                        try clear hfz14_2
                        try clear hfz14_3
                        try clear hfz14_4
                        try clear hfz20_0
                        try clear hfz20_1
                        try clear hfz20_2
                        try clear hfz20_3
                        try clear hfz20_4
                        try clear hfz22_0
                        try clear hfz22_1
                        try clear hfz22_2
                        try clear hfz22_3
                        try clear hfz22_4
                        try clear hfz30_0
                        try clear hfz30_1
                        try clear hfz30_2
                        try clear hfz30_3
                        try clear hfz30_4
                        try clear hfz32_0
                        try clear hfz32_1
                        try clear hfz32_2
                        try clear hfz32_3
                        try clear hfz32_4
                        try clear hfz36_0
                        try clear hfz36_1
                        try clear hfz36_2
                        try clear hfz36_3
                        try clear hfz36_4
                        try clear hfz6_0
                        try clear hfz6_1
                        try clear hfz6_2
                        try clear hfz6_3
                        try clear hfz6_4
                        try clear hfz9_0
                        try clear hfz9_1
                        try clear hfz9_2
                        try clear hfz9_3
                        try clear hfz9_4
                        try clear hx649_0
                        try clear hx650_0
                        try clear hx650_1
                        try clear hx650_2
                        try clear hx650_3
                        try clear hx650_4
                        try clear hx650_5
                        try clear hx650_6
                        try clear p2
                        try clear p649
                        try clear p650
                        try clear q649
                        try clear q650
                        obtain ⟨x6_3, rfl, HA, HK3, BK645, HB⟩ := hrel
                        cases gk with
                        | zero => exact absurd HA.out (by simp [vellumref03_Check.l1])
                        | succ k3 =>
                          have H := HA.out
                          clear HA
                          simp only [vellumref03_Check.l1] at H
                          by_cases c38 : x6_3 < (l0_4.length : Int)
                          · rw [if_pos c38] at H
                            have c38b0 : decide (x6_3 < (l0_4.length : Int)) = true := decide_eq_true c38
                            clear c38
                            by_cases c39 : 0 ≤ x6_3
                            · rw [if_pos c39] at H
                              have c39b0 : decide (0 ≤ x6_3) = true := decide_eq_true c39
                              clear c39
                              replace H := Option.bind_eq_some_iff.mp H
                              obtain ⟨t653, A400, H⟩ := H
                              replace H : (if t653 = true then ((vellumref03_some.f k3 a0_0 l0_1 l0_2 l0_3 l0_4 ((rd_T139 l0_4 x6_3).f0)).bind fun t655 => (if t655 = true then (vellumref03_Check.l1 k3 (wrap64 (x6_3 + 1)) a0_0 l0_1 l0_2 l0_3 l0_4) else (some 33))) else (some 30)) = some r := H
                              have A40 := Aside0.mk A400
                              clear A400
                              by_cases c41 : t653 = true
                              · subst c41
                                have H1 : ((vellumref03_some.f k3 a0_0 l0_1 l0_2 l0_3 l0_4 ((rd_T139 l0_4 x6_3).f0)).bind fun t655 => (if t655 = true then (vellumref03_Check.l1 k3 (wrap64 (x6_3 + 1)) a0_0 l0_1 l0_2 l0_3 l0_4) else (some 33))) = some r := by rw [if_pos rfl] at H; exact H
                                clear H
                                have H := H1
                                clear H1
                                replace H := Option.bind_eq_some_iff.mp H
                                obtain ⟨t655, A420, H⟩ := H
                                replace H : (if t655 = true then (vellumref03_Check.l1 k3 (wrap64 (x6_3 + 1)) a0_0 l0_1 l0_2 l0_3 l0_4) else (some 33)) = some r := H
                                have A42 := Aside0.mk A420
                                clear A420
                                by_cases c43 : t655 = true
                                · subst c43
                                  have H1 : (vellumref03_Check.l1 k3 (wrap64 (x6_3 + 1)) a0_0 l0_1 l0_2 l0_3 l0_4) = some r := by rw [if_pos rfl] at H; exact H
                                  clear H
                                  have H := H1
                                  clear H1
                                  have H' := Aside0.mk H
                                  clear H
                                  obtain ⟨hcz44_0, hcz44_1, hcz44_2, hcz44_3, hcz44_4⟩ := bc5 BK645
                                  obtain ⟨hfz44_0, hfz44_1, hfz44_2, hfz44_3, hfz44_4⟩ := bf5 BK645
                                  have p652 : 0 ≤ (x6_3 : Int) := of_decide_eq_true asm
                                  have q652 : x6_3 < (l0_4.length : Int) := of_decide_eq_true asm
                                  obtain ⟨ad652, A652_0, c652_0, e652, hx652_0, hx652_1, hl652_0, hi652_0⟩ := at_T139 HR0_4.out x6_3 p652 q652
                                  cases e652
                                  replace hx652_0 := (HB.out.cell (World.block_lt_of_cell? w _ hx652_0)).trans hx652_0
                                  replace hx652_1 := (HB.out.cell (World.block_lt_of_cell? w _ hx652_1)).trans hx652_1
                                  have HR652_0 := Aside0.mk hi652_0
                                  have HC652_0 := Aside0.mk hl652_0
                                  clear hi652_0 hl652_0
                                  replace p652 := eq_true p652
                                  replace q652 := eq_true q652
                                  try go_wp2_with (first | ((with_reducible refine gate_callee (f := 132) rfl ?_); refine goesL_ (some 78) rfl rfl Tryd.func132 (by kernel_rfl) rfl #[.string ((rd_T139 l0_4 x6_3).f1)] rfl (by (try simp only [List.map_toArray, List.map_cons, List.map_nil]); first | done | rfl | (simp only [List.length_drop, List.length_take]; rfl)) ?_; (with_reducible refine (vellumref03_Name.calls k3 ((rd_T139 l0_4 x6_3).f1) true _ A40.out).mono ?_); rintro e w45 ⟨rfl, hb⟩; refine ⟨_, rfl, ?_⟩; have n0_ := Aside0.mk (blk_below (bk BK645) hb); have n1_ := Aside0.mk (below_step (bl HB) hb); clear BK645; clear HB; have BK645 := n0_; have HB := n1_; clear n0_ n1_; (try clear hb); (try clear hb2); (try clear hk); (try clear hi)))
                                  have n0_ := Aside0.mk (blk_drew BK645.out)
                                  have n1_ := Aside0.mk (below_drew1 HB.out)
                                  clear BK645
                                  clear HB
                                  have BK645 := n0_
                                  have HB := n1_
                                  clear n0_ n1_
                                  have p654 : 0 ≤ (x6_3 : Int) := of_decide_eq_true asm
                                  have q654 : x6_3 < (l0_4.length : Int) := of_decide_eq_true asm
                                  obtain ⟨ad654, A654_0, c654_0, e654, hx654_0, hx654_1, hl654_0, hi654_0⟩ := at_T139 HR0_4.out x6_3 p654 q654
                                  have hw654_1 := hx654_1
                                  have hw654_0 := hx654_0
                                  obtain rfl : ad652 = ad654 := (by injection e654)
                                  replace hx654_0 := (HB.out.cell (World.block_lt_of_cell? w _ hx654_0)).trans hx654_0
                                  replace hx654_1 := (HB.out.cell (World.block_lt_of_cell? w _ hx654_1)).trans hx654_1
                                  have HR654_0 := Aside0.mk hi654_0
                                  have HC654_0 := Aside0.mk hl654_0
                                  clear hi654_0 hl654_0
                                  replace p654 := eq_true p654
                                  replace q654 := eq_true q654
                                  refine start_ (n := 9) (S := fun w' => w'.cell? ⟨gb645, 0, none⟩ = some (.string a0_0) ∧ w'.cell? ⟨gb645, 1, none⟩ = some (.slice A0_1 l0_1.length c0_1) ∧ w'.cell? ⟨gb645, 2, none⟩ = some (.slice A0_2 l0_2.length c0_2) ∧ w'.cell? ⟨gb645, 3, none⟩ = some (.slice A0_3 l0_3.length c0_3) ∧ w'.cell? ⟨gb645, 4, none⟩ = some (.slice (some ad652) l0_4.length c0_4) ∧ w'.cell? (ad652.add ((x6_3).toNat * 2)) = some (.slice A654_0 ((rd_T139 l0_4 x6_3).f0).length c654_0) ∧ w'.cell? ⟨(ad652.add ((x6_3).toNat * 2)).block, (ad652.add ((x6_3).toNat * 2)).off + 1, none⟩ = some (.string ((rd_T139 l0_4 x6_3).f1))) (ds := []) (bb 0 9) (by kernel_rfl) rfl rfl ⟨(blk_cell BK645.out 0).trans rfl, (blk_cell BK645.out 1).trans rfl, (blk_cell BK645.out 2).trans rfl, (blk_cell BK645.out 3).trans rfl, (blk_cell BK645.out 4).trans rfl, ((HB.out.cell (World.block_lt_of_cell? w _ hw654_0)).trans hw654_0), ((HB.out.cell (World.block_lt_of_cell? w _ hw654_1)).trans hw654_1)⟩ (fun hHeld => ?_); refine with_tabW vellumref03_Check.tab23 vellumref03_Check.bits23 (fun HT_ HW_ => ?_)
                                  generalize w45.drew = w46 at BK645 HB HR654_0 hx654_0 hx654_1 hHeld ⊢
                                  refine pure_ (i := 1) (N := some 81) (v := ?_) (a' := ?_) #[false, true, false, false, false, false, false, false, false] rfl rfl (any_of HT_.out (by kernel_rfl)) (fun _ _ _ h => h) (Or.inl ⟨by rfl, ?_⟩) ?_ ?_
                                  rotate_left
                                  · intro w'
                                    go_simp
                                    with_reducible rfl
                                  rotate_left
                                  · simp only [Act.put, List.setIfInBounds_toArray, List.set_cons_zero, List.set_cons_succ, i64_w, i32_w]
                                    rfl
                                  refine pure_ (i := 3) (N := some 83) (v := ?_) (a' := ?_) #[false, true, false, true, false, false, false, false, false] rfl rfl (any_of HT_.out (by kernel_rfl)) (fun _ _ _ h => h) (Or.inl ⟨by rfl, ?_⟩) ?_ ?_
                                  rotate_left
                                  · intro w'
                                    go_simp
                                    with_reducible rfl
                                  rotate_left
                                  · simp only [Act.put, List.setIfInBounds_toArray, List.set_cons_zero, List.set_cons_succ, i64_w, i32_w]
                                    rfl
                                  refine take_ (i := 0) (N := some 80) (v := ?_) (a' := ?_) #[true, true, false, true, false, false, false, false, false] rfl rfl (take_ofW HT_.out HW_.out (by kernel_rfl)) (fun _ _ _ h => h) (Or.inl ⟨by rfl, ?_⟩) hHeld ?_ ?_
                                  rotate_left
                                  · rintro w' ⟨s0, s1, s2, s3, s4, s5, s6⟩
                                    go_simp
                                    with_reducible rfl
                                  rotate_left
                                  · simp only [Act.put, List.setIfInBounds_toArray, List.set_cons_zero, List.set_cons_succ, i64_w, i32_w]
                                    rfl
                                  refine take_ (i := 2) (N := some 82) (v := ?_) (a' := ?_) (bb 4 9) rfl rfl (take_ofW HT_.out HW_.out (by kernel_rfl)) (fun _ _ _ h => h) (Or.inl ⟨by rfl, ?_⟩) hHeld ?_ ?_
                                  rotate_left
                                  · rintro w' ⟨s0, s1, s2, s3, s4, s5, s6⟩
                                    go_simp
                                    with_reducible rfl
                                  rotate_left
                                  · simp only [Act.put, List.setIfInBounds_toArray, List.set_cons_zero, List.set_cons_succ, i64_w, i32_w]
                                    rfl
                                  refine pure_ (i := 4) (N := some 84) (v := ?_) (a' := ?_) (bb 5 9) rfl rfl (any_of HT_.out (by kernel_rfl)) (fun _ _ _ h => h) (Or.inl ⟨by rfl, ?_⟩) ?_ ?_
                                  rotate_left
                                  · intro w'
                                    go_simp
                                    with_reducible rfl
                                  rotate_left
                                  · simp only [Act.put, List.setIfInBounds_toArray, List.set_cons_zero, List.set_cons_succ, i64_w, i32_w]
                                    rfl
                                  refine pure_ (i := 5) (N := some 85) (v := ?_) (a' := ?_) (bb 6 9) rfl rfl (any_of HT_.out (by kernel_rfl)) (fun _ _ _ h => h) (Or.inl ⟨by rfl, ?_⟩) ?_ ?_
                                  rotate_left
                                  · intro w'
                                    go_simp
                                    with_reducible rfl
                                  rotate_left
                                  · simp only [Act.put, List.setIfInBounds_toArray, List.set_cons_zero, List.set_cons_succ, i64_w, i32_w]
                                    rfl
                                  refine take_ (i := 6) (N := some 86) (v := ?_) (a' := ?_) (bb 7 9) rfl rfl (take_ofW HT_.out HW_.out (by kernel_rfl)) (fun _ _ _ h => h) (Or.inl ⟨by rfl, ?_⟩) hHeld ?_ ?_
                                  rotate_left
                                  · rintro w' ⟨s0, s1, s2, s3, s4, s5, s6⟩
                                    go_simp
                                    with_reducible rfl
                                  rotate_left
                                  · simp only [Act.put, List.setIfInBounds_toArray, List.set_cons_zero, List.set_cons_succ, i64_w, i32_w]
                                    rfl
                                  refine one_ (i := 7) (N := some 87) (bb 8 9) rfl rfl (one_of HT_.out (by kernel_rfl)) (by decide) (fun K hK => ?_)
                                  refine goes_ Tryd.func134 (by kernel_rfl) rfl #[.agg #[.string a0_0, .slice A0_1 l0_1.length c0_1, .slice A0_2 l0_2.length c0_2, .slice A0_3 l0_3.length c0_3, .slice (some ad652) l0_4.length c0_4], .slice A654_0 ((rd_T139 l0_4 x6_3).f0).length c654_0] (by rfl) rfl rfl (by (try simp only [List.map_toArray, List.map_cons, List.map_nil]); first | done | rfl | (simp only [List.length_drop, List.length_take]; rfl)) ?_
                                  with_reducible refine (vellumref03_some.calls k3 a0_0 _ _ l0_1 _ _ l0_2 _ _ l0_3 _ _ l0_4 _ _ ((rd_T139 l0_4 x6_3).f0) true _ ?side1 ?side2 ?side3 ?side4 ?side5 ?side6 ?side7 ?side8 ?side9 ?side10 A42.out).mono ?_
                                  (case side1 => exact Kd.cb HR0_1 HB)
                                  (case side2 => exact HC0_1.out)
                                  (case side3 => exact Kd.cb HR0_2 HB)
                                  (case side4 => exact HC0_2.out)
                                  (case side5 => exact Kd.cb HR0_3 HB)
                                  (case side6 => exact HC0_3.out)
                                  (case side7 => exact Kd.cb HR0_4 HB)
                                  (case side8 => exact HC0_4.out)
                                  (case side9 => exact Kd.cb HR654_0 HB)
                                  (case side10 => exact HC654_0.out)
                                  rintro e w47 ⟨rfl, hb⟩
                                  refine ⟨_, rfl, ?_⟩
                                  have n0_ := Aside0.mk (blk_below (bk BK645) hb)
                                  have n1_ := Aside0.mk (below_step (bl HB) hb)
                                  clear BK645
                                  clear HB
                                  have BK645 := n0_
                                  have HB := n1_
                                  clear n0_ n1_
                                  (try clear hb)
                                  (try clear hb2)
                                  (try clear hk)
                                  (try clear hi)
                                  refine hK.out _ _ ⟨(blk_cell BK645.out 0).trans rfl, (blk_cell BK645.out 1).trans rfl, (blk_cell BK645.out 2).trans rfl, (blk_cell BK645.out 3).trans rfl, (blk_cell BK645.out 4).trans rfl, ((HB.out.cell (World.block_lt_of_cell? w _ hw654_0)).trans hw654_0), ((HB.out.cell (World.block_lt_of_cell? w _ hw654_1)).trans hw654_1)⟩ (fun hHeld => ?_)
                                  clear hK K
                                  refine norm_ (a' := ?_) ?_ ?_
                                  rotate_left
                                  · show Act.put _ (some 87) _ = _
                                    simp only [Act.put, List.setIfInBounds_toArray, List.set_cons_zero, List.set_cons_succ, i64_w, i32_w]
                                    rfl
                                  refine pure_ (i := 8) (N := some 88) (v := ?_) (a' := ?_) (bb 9 9) rfl rfl (any_of HT_.out (by kernel_rfl)) (fun _ _ _ h => h) (Or.inl ⟨by rfl, ?_⟩) ?_ ?_
                                  rotate_left
                                  · intro w'
                                    go_simp
                                    with_reducible rfl
                                  rotate_left
                                  · simp only [Act.put, List.setIfInBounds_toArray, List.set_cons_zero, List.set_cons_succ, i64_w, i32_w]
                                    rfl
                                  refine done_ (done_of HT_.out (by kernel_rfl)) ?_
                                  try go_wp2
                                  go_roundg k3
                                  case measure => have := HJ3.out; have := HK2.out; have := HK3.out; omega
                                  case rel => exact ⟨(wrap64 (x6_3 + 1)), eb, H', ⟨by have := HJ3.out; have := HK2.out; have := HK3.out; omega⟩, ⟨bk BK645⟩, ⟨bl HB⟩⟩
                                · replace c43 := Bool.eq_false_iff.mpr c43
                                  subst c43
                                  have H1 : (some 33) = some r := by rw [if_neg (show ¬ (false = true) by decide)] at H; exact H
                                  clear H
                                  have H := H1
                                  clear H1
                                  obtain rfl := Option.some.inj H
                                  obtain ⟨hcz48_0, hcz48_1, hcz48_2, hcz48_3, hcz48_4⟩ := bc5 BK645
                                  obtain ⟨hfz48_0, hfz48_1, hfz48_2, hfz48_3, hfz48_4⟩ := bf5 BK645
                                  have p652 : 0 ≤ (x6_3 : Int) := of_decide_eq_true asm
                                  have q652 : x6_3 < (l0_4.length : Int) := of_decide_eq_true asm
                                  obtain ⟨ad652, A652_0, c652_0, e652, hx652_0, hx652_1, hl652_0, hi652_0⟩ := at_T139 HR0_4.out x6_3 p652 q652
                                  cases e652
                                  replace hx652_0 := (HB.out.cell (World.block_lt_of_cell? w _ hx652_0)).trans hx652_0
                                  replace hx652_1 := (HB.out.cell (World.block_lt_of_cell? w _ hx652_1)).trans hx652_1
                                  have HR652_0 := Aside0.mk hi652_0
                                  have HC652_0 := Aside0.mk hl652_0
                                  clear hi652_0 hl652_0
                                  replace p652 := eq_true p652
                                  replace q652 := eq_true q652
                                  try go_wp2_with (first | ((with_reducible refine gate_callee (f := 132) rfl ?_); refine goesL_ (some 78) rfl rfl Tryd.func132 (by kernel_rfl) rfl #[.string ((rd_T139 l0_4 x6_3).f1)] rfl (by (try simp only [List.map_toArray, List.map_cons, List.map_nil]); first | done | rfl | (simp only [List.length_drop, List.length_take]; rfl)) ?_; (with_reducible refine (vellumref03_Name.calls k3 ((rd_T139 l0_4 x6_3).f1) true _ A40.out).mono ?_); rintro e w49 ⟨rfl, hb⟩; refine ⟨_, rfl, ?_⟩; have n0_ := Aside0.mk (blk_below (bk BK645) hb); have n1_ := Aside0.mk (below_step (bl HB) hb); clear BK645; clear HB; have BK645 := n0_; have HB := n1_; clear n0_ n1_; (try clear hb); (try clear hb2); (try clear hk); (try clear hi)))
                                  have n0_ := Aside0.mk (blk_drew BK645.out)
                                  have n1_ := Aside0.mk (below_drew1 HB.out)
                                  clear BK645
                                  clear HB
                                  have BK645 := n0_
                                  have HB := n1_
                                  clear n0_ n1_
                                  have p654 : 0 ≤ (x6_3 : Int) := of_decide_eq_true asm
                                  have q654 : x6_3 < (l0_4.length : Int) := of_decide_eq_true asm
                                  obtain ⟨ad654, A654_0, c654_0, e654, hx654_0, hx654_1, hl654_0, hi654_0⟩ := at_T139 HR0_4.out x6_3 p654 q654
                                  have hw654_1 := hx654_1
                                  have hw654_0 := hx654_0
                                  obtain rfl : ad652 = ad654 := (by injection e654)
                                  replace hx654_0 := (HB.out.cell (World.block_lt_of_cell? w _ hx654_0)).trans hx654_0
                                  replace hx654_1 := (HB.out.cell (World.block_lt_of_cell? w _ hx654_1)).trans hx654_1
                                  have HR654_0 := Aside0.mk hi654_0
                                  have HC654_0 := Aside0.mk hl654_0
                                  clear hi654_0 hl654_0
                                  replace p654 := eq_true p654
                                  replace q654 := eq_true q654
                                  refine start_ (n := 9) (S := fun w' => w'.cell? ⟨gb645, 0, none⟩ = some (.string a0_0) ∧ w'.cell? ⟨gb645, 1, none⟩ = some (.slice A0_1 l0_1.length c0_1) ∧ w'.cell? ⟨gb645, 2, none⟩ = some (.slice A0_2 l0_2.length c0_2) ∧ w'.cell? ⟨gb645, 3, none⟩ = some (.slice A0_3 l0_3.length c0_3) ∧ w'.cell? ⟨gb645, 4, none⟩ = some (.slice (some ad652) l0_4.length c0_4) ∧ w'.cell? (ad652.add ((x6_3).toNat * 2)) = some (.slice A654_0 ((rd_T139 l0_4 x6_3).f0).length c654_0) ∧ w'.cell? ⟨(ad652.add ((x6_3).toNat * 2)).block, (ad652.add ((x6_3).toNat * 2)).off + 1, none⟩ = some (.string ((rd_T139 l0_4 x6_3).f1))) (ds := []) (bb 0 9) (by kernel_rfl) rfl rfl ⟨(blk_cell BK645.out 0).trans rfl, (blk_cell BK645.out 1).trans rfl, (blk_cell BK645.out 2).trans rfl, (blk_cell BK645.out 3).trans rfl, (blk_cell BK645.out 4).trans rfl, ((HB.out.cell (World.block_lt_of_cell? w _ hw654_0)).trans hw654_0), ((HB.out.cell (World.block_lt_of_cell? w _ hw654_1)).trans hw654_1)⟩ (fun hHeld => ?_); refine with_tabW vellumref03_Check.tab23 vellumref03_Check.bits23 (fun HT_ HW_ => ?_)
                                  generalize w49.drew = w50 at BK645 HB HR654_0 hx654_0 hx654_1 hHeld ⊢
                                  refine pure_ (i := 1) (N := some 81) (v := ?_) (a' := ?_) #[false, true, false, false, false, false, false, false, false] rfl rfl (any_of HT_.out (by kernel_rfl)) (fun _ _ _ h => h) (Or.inl ⟨by rfl, ?_⟩) ?_ ?_
                                  rotate_left
                                  · intro w'
                                    go_simp
                                    with_reducible rfl
                                  rotate_left
                                  · simp only [Act.put, List.setIfInBounds_toArray, List.set_cons_zero, List.set_cons_succ, i64_w, i32_w]
                                    rfl
                                  refine pure_ (i := 3) (N := some 83) (v := ?_) (a' := ?_) #[false, true, false, true, false, false, false, false, false] rfl rfl (any_of HT_.out (by kernel_rfl)) (fun _ _ _ h => h) (Or.inl ⟨by rfl, ?_⟩) ?_ ?_
                                  rotate_left
                                  · intro w'
                                    go_simp
                                    with_reducible rfl
                                  rotate_left
                                  · simp only [Act.put, List.setIfInBounds_toArray, List.set_cons_zero, List.set_cons_succ, i64_w, i32_w]
                                    rfl
                                  refine take_ (i := 0) (N := some 80) (v := ?_) (a' := ?_) #[true, true, false, true, false, false, false, false, false] rfl rfl (take_ofW HT_.out HW_.out (by kernel_rfl)) (fun _ _ _ h => h) (Or.inl ⟨by rfl, ?_⟩) hHeld ?_ ?_
                                  rotate_left
                                  · rintro w' ⟨s0, s1, s2, s3, s4, s5, s6⟩
                                    go_simp
                                    with_reducible rfl
                                  rotate_left
                                  · simp only [Act.put, List.setIfInBounds_toArray, List.set_cons_zero, List.set_cons_succ, i64_w, i32_w]
                                    rfl
                                  refine take_ (i := 2) (N := some 82) (v := ?_) (a' := ?_) (bb 4 9) rfl rfl (take_ofW HT_.out HW_.out (by kernel_rfl)) (fun _ _ _ h => h) (Or.inl ⟨by rfl, ?_⟩) hHeld ?_ ?_
                                  rotate_left
                                  · rintro w' ⟨s0, s1, s2, s3, s4, s5, s6⟩
                                    go_simp
                                    with_reducible rfl
                                  rotate_left
                                  · simp only [Act.put, List.setIfInBounds_toArray, List.set_cons_zero, List.set_cons_succ, i64_w, i32_w]
                                    rfl
                                  refine pure_ (i := 4) (N := some 84) (v := ?_) (a' := ?_) (bb 5 9) rfl rfl (any_of HT_.out (by kernel_rfl)) (fun _ _ _ h => h) (Or.inl ⟨by rfl, ?_⟩) ?_ ?_
                                  rotate_left
                                  · intro w'
                                    go_simp
                                    with_reducible rfl
                                  rotate_left
                                  · simp only [Act.put, List.setIfInBounds_toArray, List.set_cons_zero, List.set_cons_succ, i64_w, i32_w]
                                    rfl
                                  refine pure_ (i := 5) (N := some 85) (v := ?_) (a' := ?_) (bb 6 9) rfl rfl (any_of HT_.out (by kernel_rfl)) (fun _ _ _ h => h) (Or.inl ⟨by rfl, ?_⟩) ?_ ?_
                                  rotate_left
                                  · intro w'
                                    go_simp
                                    with_reducible rfl
                                  rotate_left
                                  · simp only [Act.put, List.setIfInBounds_toArray, List.set_cons_zero, List.set_cons_succ, i64_w, i32_w]
                                    rfl
                                  refine take_ (i := 6) (N := some 86) (v := ?_) (a' := ?_) (bb 7 9) rfl rfl (take_ofW HT_.out HW_.out (by kernel_rfl)) (fun _ _ _ h => h) (Or.inl ⟨by rfl, ?_⟩) hHeld ?_ ?_
                                  rotate_left
                                  · rintro w' ⟨s0, s1, s2, s3, s4, s5, s6⟩
                                    go_simp
                                    with_reducible rfl
                                  rotate_left
                                  · simp only [Act.put, List.setIfInBounds_toArray, List.set_cons_zero, List.set_cons_succ, i64_w, i32_w]
                                    rfl
                                  refine one_ (i := 7) (N := some 87) (bb 8 9) rfl rfl (one_of HT_.out (by kernel_rfl)) (by decide) (fun K hK => ?_)
                                  refine goes_ Tryd.func134 (by kernel_rfl) rfl #[.agg #[.string a0_0, .slice A0_1 l0_1.length c0_1, .slice A0_2 l0_2.length c0_2, .slice A0_3 l0_3.length c0_3, .slice (some ad652) l0_4.length c0_4], .slice A654_0 ((rd_T139 l0_4 x6_3).f0).length c654_0] (by rfl) rfl rfl (by (try simp only [List.map_toArray, List.map_cons, List.map_nil]); first | done | rfl | (simp only [List.length_drop, List.length_take]; rfl)) ?_
                                  with_reducible refine (vellumref03_some.calls k3 a0_0 _ _ l0_1 _ _ l0_2 _ _ l0_3 _ _ l0_4 _ _ ((rd_T139 l0_4 x6_3).f0) false _ ?side1 ?side2 ?side3 ?side4 ?side5 ?side6 ?side7 ?side8 ?side9 ?side10 A42.out).mono ?_
                                  (case side1 => exact Kd.cb HR0_1 HB)
                                  (case side2 => exact HC0_1.out)
                                  (case side3 => exact Kd.cb HR0_2 HB)
                                  (case side4 => exact HC0_2.out)
                                  (case side5 => exact Kd.cb HR0_3 HB)
                                  (case side6 => exact HC0_3.out)
                                  (case side7 => exact Kd.cb HR0_4 HB)
                                  (case side8 => exact HC0_4.out)
                                  (case side9 => exact Kd.cb HR654_0 HB)
                                  (case side10 => exact HC654_0.out)
                                  rintro e w51 ⟨rfl, hb⟩
                                  refine ⟨_, rfl, ?_⟩
                                  have n0_ := Aside0.mk (blk_below (bk BK645) hb)
                                  have n1_ := Aside0.mk (below_step (bl HB) hb)
                                  clear BK645
                                  clear HB
                                  have BK645 := n0_
                                  have HB := n1_
                                  clear n0_ n1_
                                  (try clear hb)
                                  (try clear hb2)
                                  (try clear hk)
                                  (try clear hi)
                                  refine hK.out _ _ ⟨(blk_cell BK645.out 0).trans rfl, (blk_cell BK645.out 1).trans rfl, (blk_cell BK645.out 2).trans rfl, (blk_cell BK645.out 3).trans rfl, (blk_cell BK645.out 4).trans rfl, ((HB.out.cell (World.block_lt_of_cell? w _ hw654_0)).trans hw654_0), ((HB.out.cell (World.block_lt_of_cell? w _ hw654_1)).trans hw654_1)⟩ (fun hHeld => ?_)
                                  clear hK K
                                  refine norm_ (a' := ?_) ?_ ?_
                                  rotate_left
                                  · show Act.put _ (some 87) _ = _
                                    simp only [Act.put, List.setIfInBounds_toArray, List.set_cons_zero, List.set_cons_succ, i64_w, i32_w]
                                    rfl
                                  refine pure_ (i := 8) (N := some 88) (v := ?_) (a' := ?_) (bb 9 9) rfl rfl (any_of HT_.out (by kernel_rfl)) (fun _ _ _ h => h) (Or.inl ⟨by rfl, ?_⟩) ?_ ?_
                                  rotate_left
                                  · intro w'
                                    go_simp
                                    with_reducible rfl
                                  rotate_left
                                  · simp only [Act.put, List.setIfInBounds_toArray, List.set_cons_zero, List.set_cons_succ, i64_w, i32_w]
                                    rfl
                                  refine done_ (done_of HT_.out (by kernel_rfl)) ?_
                                  try go_wp2
                                  go_ret
                                  exact ⟨er, bl HB⟩
                              · replace c41 := Bool.eq_false_iff.mpr c41
                                subst c41
                                have H1 : (some 30) = some r := by rw [if_neg (show ¬ (false = true) by decide)] at H; exact H
                                clear H
                                have H := H1
                                clear H1
                                obtain rfl := Option.some.inj H
                                obtain ⟨hcz52_0, hcz52_1, hcz52_2, hcz52_3, hcz52_4⟩ := bc5 BK645
                                obtain ⟨hfz52_0, hfz52_1, hfz52_2, hfz52_3, hfz52_4⟩ := bf5 BK645
                                have p652 : 0 ≤ (x6_3 : Int) := of_decide_eq_true asm
                                have q652 : x6_3 < (l0_4.length : Int) := of_decide_eq_true asm
                                obtain ⟨ad652, A652_0, c652_0, e652, hx652_0, hx652_1, hl652_0, hi652_0⟩ := at_T139 HR0_4.out x6_3 p652 q652
                                cases e652
                                replace hx652_0 := (HB.out.cell (World.block_lt_of_cell? w _ hx652_0)).trans hx652_0
                                replace hx652_1 := (HB.out.cell (World.block_lt_of_cell? w _ hx652_1)).trans hx652_1
                                have HR652_0 := Aside0.mk hi652_0
                                have HC652_0 := Aside0.mk hl652_0
                                clear hi652_0 hl652_0
                                replace p652 := eq_true p652
                                replace q652 := eq_true q652
                                go_wp2_with (first | ((with_reducible refine gate_callee (f := 132) rfl ?_); refine goesL_ (some 78) rfl rfl Tryd.func132 (by kernel_rfl) rfl #[.string ((rd_T139 l0_4 x6_3).f1)] rfl (by (try simp only [List.map_toArray, List.map_cons, List.map_nil]); first | done | rfl | (simp only [List.length_drop, List.length_take]; rfl)) ?_; (with_reducible refine (vellumref03_Name.calls k3 ((rd_T139 l0_4 x6_3).f1) false _ A40.out).mono ?_); rintro e w53 ⟨rfl, hb⟩; refine ⟨_, rfl, ?_⟩; have n0_ := Aside0.mk (blk_below (bk BK645) hb); have n1_ := Aside0.mk (below_step (bl HB) hb); clear BK645; clear HB; have BK645 := n0_; have HB := n1_; clear n0_ n1_; (try clear hb); (try clear hb2); (try clear hk); (try clear hi)))
                                go_ret
                                exact ⟨er, bl HB⟩
                            · rw [if_neg c39] at H
                              exact absurd H (by simp)
                          · rw [if_neg c38] at H
                            have c38b0 : decide (x6_3 < (l0_4.length : Int)) = false := decide_eq_false c38
                            clear c38
                            obtain rfl := Option.some.inj H
                            obtain ⟨hcz54_0, hcz54_1, hcz54_2, hcz54_3, hcz54_4⟩ := bc5 BK645
                            obtain ⟨hfz54_0, hfz54_1, hfz54_2, hfz54_3, hfz54_4⟩ := bf5 BK645
                            go_wp2
                            go_ret
                            exact ⟨er, bl HB⟩
                    · rw [if_neg c35] at H
                      have c35b0 : (t651 == 0) = false := beq_eq_false_iff_ne.mpr c35
                      have c35b1 : (t651 != 0) = true := bne_iff_ne.mpr c35
                      obtain rfl := Option.some.inj H
                      obtain ⟨hcz55_0, hcz55_1, hcz55_2, hcz55_3, hcz55_4⟩ := bc5 BK645
                      obtain ⟨hfz55_0, hfz55_1, hfz55_2, hfz55_3, hfz55_4⟩ := bf5 BK645
                      go_wp2_with (first | ((with_reducible refine gate_callee (f := 135) rfl ?_); refine goesL_ (some 61) rfl rfl Tryd.func135 (by kernel_rfl) rfl #[.agg #[.string a0_0, .slice A0_1 l0_1.length c0_1, .slice A0_2 l0_2.length c0_2, .slice A0_3 l0_3.length c0_3, .slice A0_4 l0_4.length c0_4]] rfl (by (try simp only [List.map_toArray, List.map_cons, List.map_nil]); first | done | rfl | (simp only [List.length_drop, List.length_take]; rfl)) ?_; (with_reducible refine (vellumref03_indexes.calls k2 a0_0 _ _ l0_1 _ _ l0_2 _ _ l0_3 _ _ l0_4 t651 _ (Kd.cb HR0_1 HB) HC0_1.out (Kd.cb HR0_2 HB) HC0_2.out (Kd.cb HR0_3 HB) HC0_3.out (Kd.cb HR0_4 HB) HC0_4.out A34.out).mono ?_); rintro e w56 ⟨rfl, hb⟩; refine ⟨_, rfl, ?_⟩; have n0_ := Aside0.mk (blk_below (bk BK645) hb); have n1_ := Aside0.mk (below_step (bl HB) hb); clear BK645; clear HB; have BK645 := n0_; have HB := n1_; clear n0_ n1_; (try clear hb); (try clear hb2); (try clear hk); (try clear hi)))
                      go_ret
                      exact ⟨er, bl HB⟩
            · replace c19 := Bool.eq_false_iff.mpr c19
              subst c19
              have H1 : (some 33) = some r := by rw [if_neg (show ¬ (false = true) by decide)] at H; exact H
              clear H
              have H := H1
              clear H1
              obtain rfl := Option.some.inj H
              obtain ⟨hcz57_0, hcz57_1, hcz57_2, hcz57_3, hcz57_4⟩ := bc5 BK645
              obtain ⟨hfz57_0, hfz57_1, hfz57_2, hfz57_3, hfz57_4⟩ := bf5 BK645
              go_wp2_with (first | ((with_reducible refine gate_callee (f := 133) rfl ?_); refine goesL_ (some 34) rfl rfl Tryd.func133 (by kernel_rfl) rfl #[.agg #[.string a0_0, .slice A0_1 l0_1.length c0_1, .slice A0_2 l0_2.length c0_2, .slice A0_3 l0_3.length c0_3, .slice A0_4 l0_4.length c0_4]] rfl (by (try simp only [List.map_toArray, List.map_cons, List.map_nil]); first | done | rfl | (simp only [List.length_drop, List.length_take]; rfl)) ?_; (with_reducible refine (vellumref03_columns.calls kj3 a0_0 _ _ l0_1 _ _ l0_2 _ _ l0_3 _ _ l0_4 t647 _ (Kd.cb HR0_1 HB) HC0_1.out (Kd.cb HR0_2 HB) HC0_2.out (Kd.cb HR0_3 HB) HC0_3.out (Kd.cb HR0_4 HB) HC0_4.out (Glob.below HG.out (bl HB)) A16.out).mono ?_); rintro e w58 ⟨rfl, hb⟩; refine ⟨_, rfl, ?_⟩; have n0_ := Aside0.mk (blk_below (bk BK645) hb); have n1_ := Aside0.mk (below_step (bl HB) hb); clear BK645; clear HB; have BK645 := n0_; have HB := n1_; clear n0_ n1_; (try clear hb); (try clear hb2); (try clear hk); (try clear hi); obtain ⟨hcz59_0, hcz59_1, hcz59_2, hcz59_3, hcz59_4⟩ := bc5 BK645; obtain ⟨hfz59_0, hfz59_1, hfz59_2, hfz59_3, hfz59_4⟩ := bf5 BK645) | ((with_reducible refine gate_callee (f := 134) rfl ?_); refine goesL_ (some 41) rfl rfl Tryd.func134 (by kernel_rfl) rfl #[.agg #[.string a0_0, .slice A0_1 l0_1.length c0_1, .slice A0_2 l0_2.length c0_2, .slice A0_3 l0_3.length c0_3, .slice A0_4 l0_4.length c0_4], .slice A0_2 l0_2.length c0_2] rfl (by (try simp only [List.map_toArray, List.map_cons, List.map_nil]); first | done | rfl | (simp only [List.length_drop, List.length_take]; rfl)) ?_; (with_reducible refine (vellumref03_some.calls kj3 a0_0 _ _ l0_1 _ _ l0_2 _ _ l0_3 _ _ l0_4 _ _ l0_2 false _ (Kd.cb HR0_1 HB) HC0_1.out (Kd.cb HR0_2 HB) HC0_2.out (Kd.cb HR0_3 HB) HC0_3.out (Kd.cb HR0_4 HB) HC0_4.out (Kd.cb HR0_2 HB) HC0_2.out A18.out).mono ?_); rintro e w60 ⟨rfl, hb⟩; refine ⟨_, rfl, ?_⟩; have n0_ := Aside0.mk (blk_below (bk BK645) hb); have n1_ := Aside0.mk (below_step (bl HB) hb); clear BK645; clear HB; have BK645 := n0_; have HB := n1_; clear n0_ n1_; (try clear hb); (try clear hb2); (try clear hk); (try clear hi)))
              go_ret
              exact ⟨er, bl HB⟩
          · rw [if_neg c17] at H
            have c17b0 : (t647 == 0) = false := beq_eq_false_iff_ne.mpr c17
            have c17b1 : (t647 != 0) = true := bne_iff_ne.mpr c17
            obtain rfl := Option.some.inj H
            obtain ⟨hcz61_0, hcz61_1, hcz61_2, hcz61_3, hcz61_4⟩ := bc5 BK645
            obtain ⟨hfz61_0, hfz61_1, hfz61_2, hfz61_3, hfz61_4⟩ := bf5 BK645
            go_wp2_with (first | ((with_reducible refine gate_callee (f := 133) rfl ?_); refine goesL_ (some 34) rfl rfl Tryd.func133 (by kernel_rfl) rfl #[.agg #[.string a0_0, .slice A0_1 l0_1.length c0_1, .slice A0_2 l0_2.length c0_2, .slice A0_3 l0_3.length c0_3, .slice A0_4 l0_4.length c0_4]] rfl (by (try simp only [List.map_toArray, List.map_cons, List.map_nil]); first | done | rfl | (simp only [List.length_drop, List.length_take]; rfl)) ?_; (with_reducible refine (vellumref03_columns.calls kj3 a0_0 _ _ l0_1 _ _ l0_2 _ _ l0_3 _ _ l0_4 t647 _ (Kd.cb HR0_1 HB) HC0_1.out (Kd.cb HR0_2 HB) HC0_2.out (Kd.cb HR0_3 HB) HC0_3.out (Kd.cb HR0_4 HB) HC0_4.out (Glob.below HG.out (bl HB)) A16.out).mono ?_); rintro e w62 ⟨rfl, hb⟩; refine ⟨_, rfl, ?_⟩; have n0_ := Aside0.mk (blk_below (bk BK645) hb); have n1_ := Aside0.mk (below_step (bl HB) hb); clear BK645; clear HB; have BK645 := n0_; have HB := n1_; clear n0_ n1_; (try clear hb); (try clear hb2); (try clear hk); (try clear hi)))
            go_ret
            exact ⟨er, bl HB⟩
  · replace c3 := Bool.eq_false_iff.mpr c3
    subst c3
    have H1 : (some 30) = some r := by rw [if_neg (show ¬ (false = true) by decide)] at H; exact H
    clear H
    have H := H1
    clear H1
    obtain rfl := Option.some.inj H
    go_enter Tryd.func93, Tryd.ntmps93
    go_wp2_with (first | ((with_reducible refine gate_dst (N := 1) rfl ?_); (try (refine gate_guard (by rfl) ?_; dsimp only)); refine box_event rfl (N := 1) rfl (cs := #[.string a0_0, .slice A0_1 l0_1.length c0_1, .slice A0_2 l0_2.length c0_2, .slice A0_3 l0_3.length c0_3, .slice A0_4 l0_4.length c0_4]) (t := 65) gs ?_; intro gb645 hg w63 hbox hb; have n0_ := Aside0.mk (below_step (bl HB) hb); have n1_ := Aside0.mk (hbox); have n2_ := Aside0.mk ((by rw [hg]; exact (below_size (bl HB)) : w.heap.size ≤ gb645)); have n3_ := Aside0.mk ((by rw [hg]; exact (below_size (bl HB)) : w.heap.size ≤ gb645)); clear HB; have HB := n0_; have BK645 := n1_; have GW645 := n2_; have GE645 := n3_; clear n0_ n1_ n2_ n3_; clear hb hbox hg; obtain ⟨hcz64_0, hcz64_1, hcz64_2, hcz64_3, hcz64_4⟩ := bc5 BK645; obtain ⟨hfz64_0, hfz64_1, hfz64_2, hfz64_3, hfz64_4⟩ := bf5 BK645) | ((with_reducible refine gate_callee (f := 132) rfl ?_); refine goesL_ (some 9) rfl rfl Tryd.func132 (by kernel_rfl) rfl #[.string a0_0] rfl (by (try simp only [List.map_toArray, List.map_cons, List.map_nil]); first | done | rfl | (simp only [List.length_drop, List.length_take]; rfl)) ?_; (with_reducible refine (vellumref03_Name.calls k a0_0 false _ A2.out).mono ?_); rintro e w65 ⟨rfl, hb⟩; refine ⟨_, rfl, ?_⟩; have n0_ := Aside0.mk (blk_below (bk BK645) hb); have n1_ := Aside0.mk (below_step (bl HB) hb); clear BK645; clear HB; have BK645 := n0_; have HB := n1_; clear n0_ n1_; (try clear hb); (try clear hb2); (try clear hk); (try clear hi)))
    go_ret
    exact ⟨er, bl HB⟩
end Go.Proofs.YtpiifdbicibelaaDoor.PA
end
section
namespace Go.Proofs.YtpiifdbicibelaaDoor.Pure
open Go.RowKit Go.Proofs Go.Proofs.YtpiifdbicibelaaDoorW.PrintWords Go.Proofs.YtpiifdbicibelaaDoorW.PrintLast Go.Proofs.YtpiifdbicibelaaDoorW.PrintMore Go.Proofs.YtpiifdbicibelaaDoor.PA Go.Proofs.YtpiifdbicibelaaDoor.OpenK
set_option linter.unusedVariables false
set_option linter.unusedSimpArgs false
theorem contains_cons (b : UInt8) (l p : List UInt8) : Lib.contains (b :: l) p = (p.isPrefixOf (b :: l) || Lib.contains l p) := by
  unfold Lib.contains
  rw [Lib.index]
  cases h : p.isPrefixOf (b :: l)
  · have hg := Lib.index_ge l p
    by_cases h1 : Lib.index l p = -1
    · simp [h1]
    · have h2 : (Lib.index l p == -1) = false := by simpa using h1
      simp [h2]
      omega
  · simp
theorem contains_nil (a : UInt8) (p : List UInt8) : Lib.contains [] (a :: p) = false := by
  unfold Lib.contains; simp [Lib.index]
theorem contains_skip (p : List UInt8) : ∀ (w t : List UInt8), 32 ∉ w → Lib.contains (w ++ t) (32 :: p) = Lib.contains t (32 :: p)
  | [], t, _ => rfl
  | b :: w, t, h => by
    have hb : (32 == b) = false := by
      rw [beq_eq_false_iff_ne]; intro e; exact h (by rw [e]; simp)
    rw [List.cons_append, contains_cons, contains_skip p w t (fun g => h (by simp [g]))]
    simp [List.isPrefixOf, hb]
theorem prefix_word : ∀ (x w t : List UInt8), 32 ∉ x → 32 ∉ w → (x ++ [32]).isPrefixOf (w ++ 32 :: t) = decide (x = w)
  | [], [], t, _, _ => by simp [List.isPrefixOf]
  | [], b :: w, t, _, h => by
    have hb : (32 == b) = false := by
      rw [beq_eq_false_iff_ne]; intro e; exact h (by rw [e]; simp)
    simp [List.isPrefixOf, hb]
  | a :: x, [], t, h, _ => by
    have hb : (a == 32) = false := by
      rw [beq_eq_false_iff_ne]; intro e; exact h (by rw [e]; simp)
    simp [List.isPrefixOf, hb]
  | a :: x, b :: w, t, h, g => by
    have ih := prefix_word x w t (fun e => h (by simp [e])) (fun e => g (by simp [e]))
    show (a == b && (x ++ [32]).isPrefixOf (w ++ 32 :: t)) = _
    rw [ih]
    by_cases e : a = b <;> simp [e]
def joined (ws : List (List UInt8)) : List UInt8 := ws.flatMap (fun w => 32 :: w) ++ [32]
theorem joined_head (ws : List (List UInt8)) : ∃ t, joined ws = 32 :: t := by
  cases ws with
  | nil => exact ⟨[], rfl⟩
  | cons w ws => exact ⟨w ++ (ws.flatMap (fun w => 32 :: w) ++ [32]), by simp [joined]⟩
theorem joined_contains (x : List UInt8) (hx : 32 ∉ x) : ∀ ws : List (List UInt8), (∀ w ∈ ws, 32 ∉ w) → Lib.contains (joined ws) (32 :: x ++ [32]) = decide (x ∈ ws)
  | [], _ => by
    show Lib.contains [32] (32 :: (x ++ [32])) = _
    rw [contains_cons, contains_nil]
    cases x <;> simp [List.isPrefixOf]
  | w :: ws, h => by
    have ih := joined_contains x hx ws (fun v hv => h v (by simp [hv]))
    have e : joined (w :: ws) = 32 :: (w ++ joined ws) := by simp [joined]
    obtain ⟨t, ht⟩ := joined_head ws
    rw [e, List.cons_append, contains_cons, contains_skip _ w _ (h w (by simp))]
    have ih' : Lib.contains (joined ws) (32 :: (x ++ [32])) = decide (x ∈ ws) := ih
    rw [ih', ht]
    have hp := prefix_word x w t hx (h w (by simp))
    show ((32 == (32 : UInt8)) && (x ++ [32]).isPrefixOf (w ++ 32 :: t) || decide (x ∈ ws)) = _
    rw [hp]
    by_cases e1 : x = w <;> by_cases e2 : x ∈ ws <;> simp [e1, e2]
def refWords : List ByteArray := (vellumref03_words.f).getD []
theorem refWords_f : vellumref03_words.f = some refWords := rfl
theorem words_eq : schemaWords.data.toList = joined (refWords.map (fun w => w.data.toList)) := by decide +kernel
theorem words_32 : ∀ w ∈ refWords.map (fun w : ByteArray => w.data.toList), (32 : UInt8) ∉ w := by decide +kernel
theorem wordB_eq {l : List UInt8} (h : l.all (fun b => smallB b || digitB b) = true) : wordB l = decide (l ∈ refWords.map (fun w => w.data.toList)) := by
  unfold wordB
  rw [words_eq]
  refine joined_contains l (fun hm => ?_) _ words_32
  have := List.all_eq_true.1 h 32 hm
  revert this; decide
theorem ref_small_f (b : UInt8) : vellumref03_small.f (b.toNat : Int) = some (smallB b) := by
  have h95 : ((b.toNat : Int) == 95) = (b == 95) := by
    rw [Bool.eq_iff_iff, beq_iff_eq, beq_iff_eq, ← UInt8.toNat_inj]
    show _ ↔ b.toNat = 95
    omega
  unfold vellumref03_small.f smallB
  rw [h95]
  by_cases h1 : 97 ≤ b.toNat <;> by_cases h2 : b.toNat ≤ 122
  · rw [if_pos (by omega), if_pos (by omega)]; simp [h1, h2]
  · rw [if_pos (by omega), if_neg (by omega)]; simp [h1, h2]
  · rw [if_neg (by omega)]; simp [h1, h2]
  · omega
theorem ref_digit_f (b : UInt8) : vellumref03_digit.f (b.toNat : Int) = some (digitB b) := digit_f b
theorem rdOf_get (l : List ByteArray) (i : Nat) (h : i < l.length) : rdOf ByteArray.empty l (i : Int) = l[i] := by
  unfold rdOf; simp [List.getD, List.getElem?_eq_getElem h]
theorem in_ev (ws : List ByteArray) (x : ByteArray) (hl : ws.length < 9223372036854775807) : Ev (fun k => vellumref03_in.f k ws x) (decide (x.data.toList ∈ ws.map (fun w => w.data.toList))) := by
  have go : ∀ (m i : Nat), i + m = ws.length → Ev (fun k => vellumref03_in.l0 k ws x (i : Int)) (decide (x.data.toList ∈ (ws.drop i).map (fun w => w.data.toList))) := by
    intro m
    induction m with
    | zero =>
      intro i hi
      rw [List.drop_of_length_le (by omega)]
      refine Ev.from_ 1 fun k => ?_
      simp only [vellumref03_in.l0]
      rw [if_neg (by omega)]; rfl
    | succ m ih =>
      intro i hi
      have hlt : i < ws.length := by omega
      rw [List.drop_eq_getElem_cons hlt]
      refine Ev.step (g := fun k => if (ws[i]).toList = x.toList then some true else vellumref03_in.l0 k ws x ((i + 1 : Nat) : Int)) (fun k => ?_) ?_
      · simp only [vellumref03_in.l0]
        rw [if_pos (by omega), if_pos (by omega), rdOf_get ws i hlt, wrap64_id (by omega) (by omega)]
        rfl
      · rw [Lib.toList_data, Lib.toList_data]
        by_cases h : ws[i].data.toList = x.data.toList
        · refine Ev.pos h ?_
          rw [decide_eq_true (by rw [List.map_cons]; exact List.mem_cons.2 (.inl h.symm))]
          exact Ev.pure
        · refine Ev.neg h ?_
          have := ih (i + 1) (by omega)
          have e : decide (x.data.toList ∈ (ws[i] :: ws.drop (i + 1)).map (fun w => w.data.toList)) = decide (x.data.toList ∈ (ws.drop (i + 1)).map (fun w => w.data.toList)) := by
            rw [decide_eq_decide, List.map_cons, List.mem_cons]
            exact ⟨fun g => g.resolve_left (fun e => h e.symm), .inr⟩
          rw [e]; exact this
  have := go ws.length 0 (by omega)
  simpa [vellumref03_in.f] using this
theorem ref_name_l0 (s : ByteArray) (hs : s.size ≤ 140737488351232) : ∀ (m i : Nat), i + m = s.size → Ev (fun k => vellumref03_Name.l0 k s (i : Int)) ((s.data.toList.drop i).all (fun b => smallB b || digitB b)) := by
  intro m
  induction m with
  | zero =>
    intro i hi
    rw [List.drop_of_length_le (by rw [data_len]; omega)]
    refine Ev.from_ 1 fun k => ?_
    simp only [vellumref03_Name.l0]
    rw [if_neg (by omega)]; rfl
  | succ m ih =>
    intro i hi
    have hlt : i < s.data.toList.length := by rw [data_len]; omega
    have hb := bt_get s i hlt
    rw [List.drop_eq_getElem_cons hlt]
    generalize s.data.toList[i]'hlt = b at hb
    refine Ev.step (g := fun k => (vellumref03_small.f (bt s (i : Int))).bind fun t103 => if t103 = true then vellumref03_Name.l0 k s ((i + 1 : Nat) : Int) else (vellumref03_digit.f (bt s (i : Int))).bind fun t104 => if t104 = true then vellumref03_Name.l0 k s ((i + 1 : Nat) : Int) else some false) (fun k => ?_) ?_
    · simp only [vellumref03_Name.l0]
      rw [if_pos (by omega), if_pos (by omega), wrap64_id (by omega) (by omega)]
      rfl
    · rw [hb]
      refine Ev.bind (Ev.const (ref_small_f b)) ?_
      have ih' := ih (i + 1) (by omega)
      cases h1 : smallB b
      · refine Ev.neg (by decide) (Ev.bind (Ev.const (ref_digit_f b)) ?_)
        cases h2 : digitB b
        · refine Ev.neg (by decide) ?_
          simp [h1, h2]; exact Ev.pure
        · refine Ev.pos rfl ?_
          simpa [h1, h2] using ih'
      · refine Ev.pos rfl ?_
        simpa [h1] using ih'
theorem name_ref (s : ByteArray) (hs : s.size ≤ 140737488351232) : Ev (fun k => vellumref03_Name.f k s) (nameOk s) := by
  have hj : ∀ b : Bool, Ev (fun k => vellumref03_Name.j0 k s b) (!b && s.data.toList.all (fun b => smallB b || digitB b)) := by
    intro b
    cases b
    · refine Ev.step (g := fun k => vellumref03_Name.l0 k s ((0 : Nat) : Int)) (fun k => ?_) ?_
      · simp only [vellumref03_Name.j0]; rw [if_neg (by decide)]; rfl
      · simpa using ref_name_l0 s hs s.size 0 (by omega)
    · refine Ev.from_ 1 fun k => ?_
      simp [vellumref03_Name.j0]
  simp only [vellumref03_Name.f]
  have hl := data_len s
  unfold nameOk
  generalize hL : s.data.toList = L at *
  cases L with
  | nil =>
    refine Ev.pos (by simp at hl; omega) ?_
    have := hj true
    simpa using this
  | cons b l =>
    have hb : bt s 0 = (b.toNat : Int) := by
      have := bt_get s 0 (by rw [hL]; simp)
      simpa [hL] using this
    simp at hl
    refine Ev.neg (by omega) ?_
    by_cases h1 : (s.size : Int) > 63
    · refine Ev.pos h1 ?_
      have e : decide ((b :: l).length ≤ 63) = false := decide_eq_false (by simp; omega)
      rw [e]
      simpa using hj true
    · refine Ev.neg h1 (Ev.pos (by omega) ?_)
      have e : decide ((b :: l).length ≤ 63) = true := decide_eq_true (by simp; omega)
      rw [e, hb]
      refine Ev.bind (Ev.const (ref_small_f b)) ?_
      cases h2 : smallB b
      · refine Ev.neg (by decide) ?_
        simpa [h2] using hj true
      · refine Ev.pos rfl (Ev.bind (Ev.const refWords_f) (Ev.bind (in_ev refWords s (by decide +kernel)) ?_))
        have := hj (decide (s.data.toList ∈ refWords.map (fun w => w.data.toList)))
        have e3 : (!decide ((b :: l) ∈ refWords.map (fun w => w.data.toList)) && (b :: l).all (fun b => smallB b || digitB b)) = (!wordB (b :: l) && (b :: l).all (fun b => smallB b || digitB b)) := by
          cases ha : (b :: l).all (fun b => smallB b || digitB b)
          · simp
          · rw [wordB_eq ha]
        rw [hL, e3] at this
        simpa [h2, hL] using this
end Go.Proofs.YtpiifdbicibelaaDoor.Pure
end
section
namespace Go.Proofs.YtpiifdbicibelaaDoor.Pure
open Go.RowKit Go.Proofs Go.Proofs.YtpiifdbicibelaaDoorW.PrintWords Go.Proofs.YtpiifdbicibelaaDoorW.PrintLast Go.Proofs.YtpiifdbicibelaaDoorW.PrintMore Go.Proofs.YtpiifdbicibelaaDoor.PA Go.Proofs.YtpiifdbicibelaaDoor.OpenK
set_option linter.unusedVariables false
/-- What a list of values is coded as_: its bytes and the outcome. -/
def chkV (x : S50) : Int := chk x.f0 x.f1 x.f2 x.f3
theorem rd_get (l : List S50) (i : Nat) (x : S50) (h : l[i]? = some x) : rd_T50 l (i : Int) = x := by
  unfold rd_T50
  simp [List.getD, h]
theorem chk_ok {a b : Int} {c : Nat} {d : ByteArray} (h : chk a b c d = 0) : (0 ≤ a ∧ a ≤ 5) ∧ d.size ≤ 65536 := by
  unfold chk at h
  split at h
  · cases h
  · rename_i h1
    split at h
    · cases h
    · rename_i h2
      have : ¬ a < 0 := fun x => h1 (Or.inl x)
      have : ¬ 5 < a := fun x => h1 (Or.inr (Or.inl x))
      constructor
      · omega
      · omega
end Go.Proofs.YtpiifdbicibelaaDoor.Pure
end
section
namespace Go.Proofs.YtpiifdbicibelaaDoor.PA
open Go.RowKit Go.Proofs.YtpiifdbicibelaaDoorW.PrintWords Go.Proofs.YtpiifdbicibelaaDoorW.PrintLast Go.Proofs.YtpiifdbicibelaaDoorW.PrintMore
attribute [local go_sem] max2_int min2_int max_two min_two max_three min_three max_four min_four   -- for this text's walks alone
set_option linter.unusedVariables false
set_option linter.unusedSimpArgs false
def vellumref03_Admits.l0 : Nat → List (S50) → Int → ByteArray → List (S105) → List Int → List (S115) → List (S139) → Option (Int)
  | 0, _, _, _, _, _, _, _ => none
  | k + 1, x1, x6, x657000, x657001, x657002, x657003, x657004 => if x6 < (x1.length : Int) then (if 0 ≤ x6 then ((vellumref01_Check.f k ((rd_T50 x1 x6).f0) ((rd_T50 x1 x6).f1) ((rd_T50 x1 x6).f2) ((rd_T50 x1 x6).f3)).bind fun t659 => (if t659 = 0 then (if ((rd_T50 x1 x6).f0) = 0 then (if x6 < (x657001.length : Int) then (if ((rd_T105 x657001 x6).f2 = true) then (vellumref03_Admits.l0 k x1 (wrap64 (x6 + 1)) x657000 x657001 x657002 x657003 x657004) else (some 35)) else (none)) else (if x6 < (x657001.length : Int) then (if ((rd_T50 x1 x6).f0) = ((rd_T105 x657001 x6).f1) then (vellumref03_Admits.l0 k x1 (wrap64 (x6 + 1)) x657000 x657001 x657002 x657003 x657004) else (some 32)) else (none))) else (some t659))) else (none)) else (some 0)
def vellumref03_Admits.f (k : Nat) (a0_0 : ByteArray) (l0_1 : List (S105)) (l0_2 : List Int) (l0_3 : List (S115)) (l0_4 : List (S139)) (l1 : List (S50)) : Option (Int) := (vellumref03_Check.f k a0_0 l0_1 l0_2 l0_3 l0_4).bind fun t657 => (if t657 = 0 then (if (l1.length : Int) = (l0_1.length : Int) then (vellumref03_Admits.l0 k l1 0 a0_0 l0_1 l0_2 l0_3 l0_4) else (some 1)) else (some t657))
set_option maxHeartbeats 8000000 in
set_option maxRecDepth 100000 in
theorem vellumref03_Admits.calls (k : Nat) (a0_0 : ByteArray) (A0_1 : Option Addr) (c0_1 : Nat) (l0_1 : List (S105)) (A0_2 : Option Addr) (c0_2 : Nat) (l0_2 : List Int) (A0_3 : Option Addr) (c0_3 : Nat) (l0_3 : List (S115)) (A0_4 : Option Addr) (c0_4 : Nat) (l0_4 : List (S139)) (A1 : Option Addr) (c1 : Nat) (l1 : List (S50)) (r : Int) (w : World) (hr0_1 : Kd.C k105 w A0_1 l0_1.length l0_1) (hc0_1 : l0_1.length ≤ c0_1) (hr0_2 : Kd.C (Kd.int .i64) w A0_2 l0_2.length l0_2) (hc0_2 : l0_2.length ≤ c0_2) (hr0_3 : Kd.C k115 w A0_3 l0_3.length l0_3) (hc0_3 : l0_3.length ≤ c0_3) (hr0_4 : Kd.C k139 w A0_4 l0_4.length l0_4) (hc0_4 : l0_4.length ≤ c0_4) (hr1 : Kd.C k50 w A1 l1.length l1) (hc1 : l1.length ≤ c1) (hG : Glob w) (h : vellumref03_Admits.f k a0_0 l0_1 l0_2 l0_3 l0_4 l1 = some r) :
    Calls Tryd.prog 85 #[.agg #[.string a0_0, .slice A0_1 l0_1.length c0_1, .slice A0_2 l0_2.length c0_2, .slice A0_3 l0_3.length c0_3, .slice A0_4 l0_4.length c0_4], .slice A1 l1.length c1] w fun e w' => e = .returned (.int .i64 r) ∧ Below w.heap.size w w' := by
  have hu65 := Tryd.underlying65
  have hu50 := Tryd.underlying50
  have HR0_1 := Aside0.mk hr0_1
  have HC0_1 := Aside0.mk hc0_1
  clear hr0_1 hc0_1
  have HR0_2 := Aside0.mk hr0_2
  have HC0_2 := Aside0.mk hc0_2
  clear hr0_2 hc0_2
  have HR0_3 := Aside0.mk hr0_3
  have HC0_3 := Aside0.mk hc0_3
  clear hr0_3 hc0_3
  have HR0_4 := Aside0.mk hr0_4
  have HC0_4 := Aside0.mk hc0_4
  clear hr0_4 hc0_4
  have HR1 := Aside0.mk hr1
  have HC1 := Aside0.mk hc1
  clear hr1 hc1
  have HG := Aside0.mk hG
  clear hG
  have HB := Aside0.mk (Below.refl w.heap.size w)
  have H : ((vellumref03_Check.f k a0_0 l0_1 l0_2 l0_3 l0_4).bind fun t657 => (if t657 = 0 then (if (l1.length : Int) = (l0_1.length : Int) then (vellumref03_Admits.l0 k l1 0 a0_0 l0_1 l0_2 l0_3 l0_4) else (some 1)) else (some t657))) = some r := h
  clear h
  replace H := Option.bind_eq_some_iff.mp H
  obtain ⟨t657, A30, H⟩ := H
  replace H : (if t657 = 0 then (if (l1.length : Int) = (l0_1.length : Int) then (vellumref03_Admits.l0 k l1 0 a0_0 l0_1 l0_2 l0_3 l0_4) else (some 1)) else (some t657)) = some r := H
  have A3 := Aside0.mk A30
  clear A30
  by_cases c4 : t657 = 0
  · rw [if_pos c4] at H
    have c4b0 : (t657 == 0) = true := beq_iff_eq.mpr c4
    have c4b1 : (t657 != 0) = false := bne_eq_false_iff_eq.mpr c4
    clear c4
    by_cases c5 : (l1.length : Int) = (l0_1.length : Int)
    · rw [if_pos c5] at H
      have c5b0 : ((l1.length : Int) == (l0_1.length : Int)) = true := beq_iff_eq.mpr c5
      have c5b1 : ((l1.length : Int) != (l0_1.length : Int)) = false := bne_eq_false_iff_eq.mpr c5
      have c5b2 : (l1.length == l0_1.length) = true := by first | simpa using c5 | (simp at c5 ⊢; omega)
      clear c5
      have H' := Aside0.mk H
      clear H
      go_enter Tryd.func85, Tryd.ntmps85
      go_wp2_with (first | ((with_reducible refine gate_dst (N := 2) rfl ?_); refine box_event rfl (N := 2) rfl (cs := #[.string a0_0, .slice A0_1 l0_1.length c0_1, .slice A0_2 l0_2.length c0_2, .slice A0_3 l0_3.length c0_3, .slice A0_4 l0_4.length c0_4]) (t := 65) gs ?_; intro gb656 hg w6 hbox hb; have n0_ := Aside0.mk (below_step (bl HB) hb); have n1_ := Aside0.mk (hbox); have n2_ := Aside0.mk ((by rw [hg]; exact (below_size (bl HB)) : w.heap.size ≤ gb656)); have n3_ := Aside0.mk ((by rw [hg]; exact (below_size (bl HB)) : w.heap.size ≤ gb656)); clear HB; have HB := n0_; have BK656 := n1_; have GW656 := n2_; have GE656 := n3_; clear n0_ n1_ n2_ n3_; clear hb hbox hg; obtain ⟨hcz7_0, hcz7_1, hcz7_2, hcz7_3, hcz7_4⟩ := bc5 BK656; obtain ⟨hfz7_0, hfz7_1, hfz7_2, hfz7_3, hfz7_4⟩ := bf5 BK656) | (go_at_call 93; (with_reducible refine (vellumref03_Check.calls k a0_0 _ _ l0_1 _ _ l0_2 _ _ l0_3 _ _ l0_4 t657 _ (Kd.cb HR0_1 HB) HC0_1.out (Kd.cb HR0_2 HB) HC0_2.out (Kd.cb HR0_3 HB) HC0_3.out (Kd.cb HR0_4 HB) HC0_4.out (Glob.below HG.out (bl HB)) A3.out).mono ?_); rintro e w8 ⟨rfl, hb⟩; have n0_ := Aside0.mk (blk_below (bk BK656) hb); have n1_ := Aside0.mk (below_step (bl HB) hb); clear BK656; clear HB; have BK656 := n0_; have HB := n1_; clear n0_ n1_; (try clear hb); (try clear hb2); (try clear hk); (try clear hi); obtain ⟨hcz9_0, hcz9_1, hcz9_2, hcz9_3, hcz9_4⟩ := bc5 BK656; obtain ⟨hfz9_0, hfz9_1, hfz9_2, hfz9_3, hfz9_4⟩ := bf5 BK656))
      repeat (go_quiet (first | ((with_reducible refine gate_dst (N := 2) rfl ?_); refine box_event rfl (N := 2) rfl (cs := #[.string a0_0, .slice A0_1 l0_1.length c0_1, .slice A0_2 l0_2.length c0_2, .slice A0_3 l0_3.length c0_3, .slice A0_4 l0_4.length c0_4]) (t := 65) gs ?_; intro gb656 hg w6 hbox hb; have n0_ := Aside0.mk (below_step (bl HB) hb); have n1_ := Aside0.mk (hbox); have n2_ := Aside0.mk ((by rw [hg]; exact (below_size (bl HB)) : w.heap.size ≤ gb656)); have n3_ := Aside0.mk ((by rw [hg]; exact (below_size (bl HB)) : w.heap.size ≤ gb656)); clear HB; have HB := n0_; have BK656 := n1_; have GW656 := n2_; have GE656 := n3_; clear n0_ n1_ n2_ n3_; clear hb hbox hg; obtain ⟨hcz7_0, hcz7_1, hcz7_2, hcz7_3, hcz7_4⟩ := bc5 BK656; obtain ⟨hfz7_0, hfz7_1, hfz7_2, hfz7_3, hfz7_4⟩ := bf5 BK656) | (go_at_call 93; (with_reducible refine (vellumref03_Check.calls k a0_0 _ _ l0_1 _ _ l0_2 _ _ l0_3 _ _ l0_4 t657 _ (Kd.cb HR0_1 HB) HC0_1.out (Kd.cb HR0_2 HB) HC0_2.out (Kd.cb HR0_3 HB) HC0_3.out (Kd.cb HR0_4 HB) HC0_4.out (Glob.below HG.out (bl HB)) A3.out).mono ?_); rintro e w8 ⟨rfl, hb⟩; have n0_ := Aside0.mk (blk_below (bk BK656) hb); have n1_ := Aside0.mk (below_step (bl HB) hb); clear BK656; clear HB; have BK656 := n0_; have HB := n1_; clear n0_ n1_; (try clear hb); (try clear hb2); (try clear hk); (try clear hi); obtain ⟨hcz9_0, hcz9_1, hcz9_2, hcz9_3, hcz9_4⟩ := bc5 BK656; obtain ⟨hfz9_0, hfz9_1, hfz9_2, hfz9_3, hfz9_4⟩ := bf5 BK656)); try go_wp2_with (first | ((with_reducible refine gate_dst (N := 2) rfl ?_); refine box_event rfl (N := 2) rfl (cs := #[.string a0_0, .slice A0_1 l0_1.length c0_1, .slice A0_2 l0_2.length c0_2, .slice A0_3 l0_3.length c0_3, .slice A0_4 l0_4.length c0_4]) (t := 65) gs ?_; intro gb656 hg w6 hbox hb; have n0_ := Aside0.mk (below_step (bl HB) hb); have n1_ := Aside0.mk (hbox); have n2_ := Aside0.mk ((by rw [hg]; exact (below_size (bl HB)) : w.heap.size ≤ gb656)); have n3_ := Aside0.mk ((by rw [hg]; exact (below_size (bl HB)) : w.heap.size ≤ gb656)); clear HB; have HB := n0_; have BK656 := n1_; have GW656 := n2_; have GE656 := n3_; clear n0_ n1_ n2_ n3_; clear hb hbox hg; obtain ⟨hcz7_0, hcz7_1, hcz7_2, hcz7_3, hcz7_4⟩ := bc5 BK656; obtain ⟨hfz7_0, hfz7_1, hfz7_2, hfz7_3, hfz7_4⟩ := bf5 BK656) | (go_at_call 93; (with_reducible refine (vellumref03_Check.calls k a0_0 _ _ l0_1 _ _ l0_2 _ _ l0_3 _ _ l0_4 t657 _ (Kd.cb HR0_1 HB) HC0_1.out (Kd.cb HR0_2 HB) HC0_2.out (Kd.cb HR0_3 HB) HC0_3.out (Kd.cb HR0_4 HB) HC0_4.out (Glob.below HG.out (bl HB)) A3.out).mono ?_); rintro e w8 ⟨rfl, hb⟩; have n0_ := Aside0.mk (blk_below (bk BK656) hb); have n1_ := Aside0.mk (below_step (bl HB) hb); clear BK656; clear HB; have BK656 := n0_; have HB := n1_; clear n0_ n1_; (try clear hb); (try clear hb2); (try clear hk); (try clear hi); obtain ⟨hcz9_0, hcz9_1, hcz9_2, hcz9_3, hcz9_4⟩ := bc5 BK656; obtain ⟨hfz9_0, hfz9_1, hfz9_2, hfz9_3, hfz9_4⟩ := bf5 BK656)))
      go_loopg [6] k (fun kq v6 w' => ∃ (x6_1 : Int), v6 = .int .i64 x6_1 ∧ Aside0 (vellumref03_Admits.l0 kq l1 x6_1 a0_0 l0_1 l0_2 l0_3 l0_4 = some r) ∧ Aside0 (kq ≤ k) ∧ Aside0 (w'.heap[gb656]? = some (.cells #[.string a0_0, (.slice A0_1 l0_1.length c0_1), (.slice A0_2 l0_2.length c0_2), (.slice A0_3 l0_3.length c0_3), (.slice A0_4 l0_4.length c0_4)] 65 (0, 0))) ∧ Aside0 (Below w.heap.size w w'))
      case atStart => exact ⟨(0), eb, H', ⟨Nat.le_refl _⟩, ⟨bk BK656⟩, ⟨bl HB⟩⟩
      case round =>
        clear H'
        try clear c1
        try clear p2
        try clear c4
        try clear c4b0
        try clear c4b1
        try clear c5
        try clear c5b0
        try clear c5b1
        try clear c5b2
        try clear c8
        try clear hcz7_0
        try clear hcz7_1
        try clear hcz7_2
        try clear hcz7_3
        try clear hcz7_4
        try clear hcz9_0
        try clear hcz9_1
        try clear hcz9_2
        try clear hcz9_3
        try clear hcz9_4
        try clear hfz7_0
        try clear hfz7_1
        try clear hfz7_2
        try clear hfz7_3
        try clear hfz7_4
        try clear hfz9_0
        try clear hfz9_1
        try clear hfz9_2
        try clear hfz9_3
        try clear hfz9_4
        obtain ⟨x6_1, rfl, HA, HK1, BK656, HB⟩ := hrel
        cases gk with
        | zero => exact absurd HA.out (by simp [vellumref03_Admits.l0])
        | succ k1 =>
          have H := HA.out
          clear HA
          simp only [vellumref03_Admits.l0] at H
          by_cases c10 : x6_1 < (l1.length : Int)
          · rw [if_pos c10] at H
            have c10b0 : decide (x6_1 < (l1.length : Int)) = true := decide_eq_true c10
            clear c10
            by_cases c11 : 0 ≤ x6_1
            · rw [if_pos c11] at H
              have c11b0 : decide (0 ≤ x6_1) = true := decide_eq_true c11
              clear c11
              replace H := Option.bind_eq_some_iff.mp H
              obtain ⟨t659, A120, H⟩ := H
              replace H : (if t659 = 0 then (if ((rd_T50 l1 x6_1).f0) = 0 then (if x6_1 < (l0_1.length : Int) then (if ((rd_T105 l0_1 x6_1).f2 = true) then (vellumref03_Admits.l0 k1 l1 (wrap64 (x6_1 + 1)) a0_0 l0_1 l0_2 l0_3 l0_4) else (some 35)) else (none)) else (if x6_1 < (l0_1.length : Int) then (if ((rd_T50 l1 x6_1).f0) = ((rd_T105 l0_1 x6_1).f1) then (vellumref03_Admits.l0 k1 l1 (wrap64 (x6_1 + 1)) a0_0 l0_1 l0_2 l0_3 l0_4) else (some 32)) else (none))) else (some t659)) = some r := H
              have A12 := Aside0.mk A120
              clear A120
              by_cases c13 : t659 = 0
              · rw [if_pos c13] at H
                have c13b0 : (t659 == 0) = true := beq_iff_eq.mpr c13
                have c13b1 : (t659 != 0) = false := bne_eq_false_iff_eq.mpr c13
                clear c13
                by_cases c14 : ((rd_T50 l1 x6_1).f0) = 0
                · rw [if_pos c14] at H
                  have c14b0 : (((rd_T50 l1 x6_1).f0) == 0) = true := beq_iff_eq.mpr c14
                  have c14b1 : (((rd_T50 l1 x6_1).f0) != 0) = false := bne_eq_false_iff_eq.mpr c14
                  clear c14
                  by_cases c15 : x6_1 < (l0_1.length : Int)
                  · rw [if_pos c15] at H
                    have c15b0 : decide (x6_1 < (l0_1.length : Int)) = true := decide_eq_true c15
                    clear c15
                    obtain ⟨bq16, hbq16⟩ : ∃ b_ : Bool, b_ = ((rd_T105 l0_1 x6_1).f2) := ⟨_, rfl⟩
                    replace H : (if (bq16 = true) then (vellumref03_Admits.l0 k1 l1 (wrap64 (x6_1 + 1)) a0_0 l0_1 l0_2 l0_3 l0_4) else (some 35)) = some r := by rw [← hbq16] at H; exact H
                    have Nbq16 := Aside0.mk hbq16
                    clear hbq16
                    by_cases c17 : (bq16 = true)
                    · subst c17
                      have H1 : (vellumref03_Admits.l0 k1 l1 (wrap64 (x6_1 + 1)) a0_0 l0_1 l0_2 l0_3 l0_4) = some r := by rw [if_pos rfl] at H; exact H
                      clear H
                      have H := H1
                      clear H1
                      have H' := Aside0.mk H
                      clear H
                      have p658 : 0 ≤ (x6_1 : Int) := of_decide_eq_true asm
                      have q658 : x6_1 < (l1.length : Int) := of_decide_eq_true asm
                      obtain ⟨ad658, e658, hx658_0, hx658_1, hx658_2, hx658_3⟩ := at_T50 HR1.out x6_1 p658 q658
                      cases e658
                      replace hx658_0 := (HB.out.cell (World.block_lt_of_cell? w _ hx658_0)).trans hx658_0
                      replace hx658_1 := (HB.out.cell (World.block_lt_of_cell? w _ hx658_1)).trans hx658_1
                      replace hx658_2 := (HB.out.cell (World.block_lt_of_cell? w _ hx658_2)).trans hx658_2
                      replace hx658_3 := (HB.out.cell (World.block_lt_of_cell? w _ hx658_3)).trans hx658_3
                      replace p658 := eq_true p658
                      replace q658 := eq_true q658
                      go_wp2_with (first | (go_at_call 69; (with_reducible refine (vellumref01_Check.calls k1 ((rd_T50 l1 x6_1).f0) ((rd_T50 l1 x6_1).f1) ((rd_T50 l1 x6_1).f2) ((rd_T50 l1 x6_1).f3) t659 _ (Glob.below HG.out (bl HB)) A12.out).mono ?_); rintro e w18 ⟨rfl, hb⟩; have n0_ := Aside0.mk (blk_below (bk BK656) hb); have n1_ := Aside0.mk (below_step (bl HB) hb); clear BK656; clear HB; have BK656 := n0_; have HB := n1_; clear n0_ n1_; (try clear hb); (try clear hb2); (try clear hk); (try clear hi); have p660 : 0 ≤ (x6_1 : Int) := of_decide_eq_true asm; have q660 : x6_1 < (l1.length : Int) := of_decide_eq_true asm; obtain ⟨ad660, e660, hx660_0, hx660_1, hx660_2, hx660_3⟩ := at_T50 HR1.out x6_1 p660 q660; obtain rfl : ad658 = ad660 := (by injection e660); replace hx660_0 := (HB.out.cell (World.block_lt_of_cell? w _ hx660_0)).trans hx660_0; replace hx660_1 := (HB.out.cell (World.block_lt_of_cell? w _ hx660_1)).trans hx660_1; replace hx660_2 := (HB.out.cell (World.block_lt_of_cell? w _ hx660_2)).trans hx660_2; replace hx660_3 := (HB.out.cell (World.block_lt_of_cell? w _ hx660_3)).trans hx660_3; replace p660 := eq_true p660; replace q660 := eq_true q660; obtain ⟨hcz19_0, hcz19_1, hcz19_2, hcz19_3, hcz19_4⟩ := bc5 BK656; obtain ⟨hfz19_0, hfz19_1, hfz19_2, hfz19_3, hfz19_4⟩ := bf5 BK656; have p661 : 0 ≤ (x6_1 : Int) := of_decide_eq_true asm; have q661 : x6_1 < (l0_1.length : Int) := of_decide_eq_true asm; obtain ⟨ad661, e661, hx661_0, hx661_1, hx661_2, hx661_3, hx661_4, hx661_5, hx661_6⟩ := at_T105 HR0_1.out x6_1 p661 q661; (try rw [← Nbq16.out] at hx661_2); (try rw [← Nbq16.out] at hw661_2); cases e661; replace hx661_0 := (HB.out.cell (World.block_lt_of_cell? w _ hx661_0)).trans hx661_0; replace hx661_1 := (HB.out.cell (World.block_lt_of_cell? w _ hx661_1)).trans hx661_1; replace hx661_2 := (HB.out.cell (World.block_lt_of_cell? w _ hx661_2)).trans hx661_2; replace hx661_3 := (HB.out.cell (World.block_lt_of_cell? w _ hx661_3)).trans hx661_3; replace hx661_4 := (HB.out.cell (World.block_lt_of_cell? w _ hx661_4)).trans hx661_4; replace hx661_5 := (HB.out.cell (World.block_lt_of_cell? w _ hx661_5)).trans hx661_5; replace hx661_6 := (HB.out.cell (World.block_lt_of_cell? w _ hx661_6)).trans hx661_6; replace p661 := eq_true p661; replace q661 := eq_true q661))
                      repeat (go_quiet (first | (go_at_call 69; (with_reducible refine (vellumref01_Check.calls k1 ((rd_T50 l1 x6_1).f0) ((rd_T50 l1 x6_1).f1) ((rd_T50 l1 x6_1).f2) ((rd_T50 l1 x6_1).f3) t659 _ (Glob.below HG.out (bl HB)) A12.out).mono ?_); rintro e w18 ⟨rfl, hb⟩; have n0_ := Aside0.mk (blk_below (bk BK656) hb); have n1_ := Aside0.mk (below_step (bl HB) hb); clear BK656; clear HB; have BK656 := n0_; have HB := n1_; clear n0_ n1_; (try clear hb); (try clear hb2); (try clear hk); (try clear hi); have p660 : 0 ≤ (x6_1 : Int) := of_decide_eq_true asm; have q660 : x6_1 < (l1.length : Int) := of_decide_eq_true asm; obtain ⟨ad660, e660, hx660_0, hx660_1, hx660_2, hx660_3⟩ := at_T50 HR1.out x6_1 p660 q660; obtain rfl : ad658 = ad660 := (by injection e660); replace hx660_0 := (HB.out.cell (World.block_lt_of_cell? w _ hx660_0)).trans hx660_0; replace hx660_1 := (HB.out.cell (World.block_lt_of_cell? w _ hx660_1)).trans hx660_1; replace hx660_2 := (HB.out.cell (World.block_lt_of_cell? w _ hx660_2)).trans hx660_2; replace hx660_3 := (HB.out.cell (World.block_lt_of_cell? w _ hx660_3)).trans hx660_3; replace p660 := eq_true p660; replace q660 := eq_true q660; obtain ⟨hcz19_0, hcz19_1, hcz19_2, hcz19_3, hcz19_4⟩ := bc5 BK656; obtain ⟨hfz19_0, hfz19_1, hfz19_2, hfz19_3, hfz19_4⟩ := bf5 BK656; have p661 : 0 ≤ (x6_1 : Int) := of_decide_eq_true asm; have q661 : x6_1 < (l0_1.length : Int) := of_decide_eq_true asm; obtain ⟨ad661, e661, hx661_0, hx661_1, hx661_2, hx661_3, hx661_4, hx661_5, hx661_6⟩ := at_T105 HR0_1.out x6_1 p661 q661; (try rw [← Nbq16.out] at hx661_2); (try rw [← Nbq16.out] at hw661_2); cases e661; replace hx661_0 := (HB.out.cell (World.block_lt_of_cell? w _ hx661_0)).trans hx661_0; replace hx661_1 := (HB.out.cell (World.block_lt_of_cell? w _ hx661_1)).trans hx661_1; replace hx661_2 := (HB.out.cell (World.block_lt_of_cell? w _ hx661_2)).trans hx661_2; replace hx661_3 := (HB.out.cell (World.block_lt_of_cell? w _ hx661_3)).trans hx661_3; replace hx661_4 := (HB.out.cell (World.block_lt_of_cell? w _ hx661_4)).trans hx661_4; replace hx661_5 := (HB.out.cell (World.block_lt_of_cell? w _ hx661_5)).trans hx661_5; replace hx661_6 := (HB.out.cell (World.block_lt_of_cell? w _ hx661_6)).trans hx661_6; replace p661 := eq_true p661; replace q661 := eq_true q661)); try go_wp2_with (first | (go_at_call 69; (with_reducible refine (vellumref01_Check.calls k1 ((rd_T50 l1 x6_1).f0) ((rd_T50 l1 x6_1).f1) ((rd_T50 l1 x6_1).f2) ((rd_T50 l1 x6_1).f3) t659 _ (Glob.below HG.out (bl HB)) A12.out).mono ?_); rintro e w18 ⟨rfl, hb⟩; have n0_ := Aside0.mk (blk_below (bk BK656) hb); have n1_ := Aside0.mk (below_step (bl HB) hb); clear BK656; clear HB; have BK656 := n0_; have HB := n1_; clear n0_ n1_; (try clear hb); (try clear hb2); (try clear hk); (try clear hi); have p660 : 0 ≤ (x6_1 : Int) := of_decide_eq_true asm; have q660 : x6_1 < (l1.length : Int) := of_decide_eq_true asm; obtain ⟨ad660, e660, hx660_0, hx660_1, hx660_2, hx660_3⟩ := at_T50 HR1.out x6_1 p660 q660; obtain rfl : ad658 = ad660 := (by injection e660); replace hx660_0 := (HB.out.cell (World.block_lt_of_cell? w _ hx660_0)).trans hx660_0; replace hx660_1 := (HB.out.cell (World.block_lt_of_cell? w _ hx660_1)).trans hx660_1; replace hx660_2 := (HB.out.cell (World.block_lt_of_cell? w _ hx660_2)).trans hx660_2; replace hx660_3 := (HB.out.cell (World.block_lt_of_cell? w _ hx660_3)).trans hx660_3; replace p660 := eq_true p660; replace q660 := eq_true q660; obtain ⟨hcz19_0, hcz19_1, hcz19_2, hcz19_3, hcz19_4⟩ := bc5 BK656; obtain ⟨hfz19_0, hfz19_1, hfz19_2, hfz19_3, hfz19_4⟩ := bf5 BK656; have p661 : 0 ≤ (x6_1 : Int) := of_decide_eq_true asm; have q661 : x6_1 < (l0_1.length : Int) := of_decide_eq_true asm; obtain ⟨ad661, e661, hx661_0, hx661_1, hx661_2, hx661_3, hx661_4, hx661_5, hx661_6⟩ := at_T105 HR0_1.out x6_1 p661 q661; (try rw [← Nbq16.out] at hx661_2); (try rw [← Nbq16.out] at hw661_2); cases e661; replace hx661_0 := (HB.out.cell (World.block_lt_of_cell? w _ hx661_0)).trans hx661_0; replace hx661_1 := (HB.out.cell (World.block_lt_of_cell? w _ hx661_1)).trans hx661_1; replace hx661_2 := (HB.out.cell (World.block_lt_of_cell? w _ hx661_2)).trans hx661_2; replace hx661_3 := (HB.out.cell (World.block_lt_of_cell? w _ hx661_3)).trans hx661_3; replace hx661_4 := (HB.out.cell (World.block_lt_of_cell? w _ hx661_4)).trans hx661_4; replace hx661_5 := (HB.out.cell (World.block_lt_of_cell? w _ hx661_5)).trans hx661_5; replace hx661_6 := (HB.out.cell (World.block_lt_of_cell? w _ hx661_6)).trans hx661_6; replace p661 := eq_true p661; replace q661 := eq_true q661)))
                      go_roundg k1
                      case measure => have := HK1.out; omega
                      case rel => exact ⟨(wrap64 (x6_1 + 1)), eb, H', ⟨by have := HK1.out; omega⟩, ⟨bk BK656⟩, ⟨bl HB⟩⟩
                    · replace c17 := Bool.eq_false_iff.mpr c17
                      subst c17
                      have H1 : (some 35) = some r := by rw [if_neg (show ¬ (false = true) by decide)] at H; exact H
                      clear H
                      have H := H1
                      clear H1
                      obtain rfl := Option.some.inj H
                      have p658 : 0 ≤ (x6_1 : Int) := of_decide_eq_true asm
                      have q658 : x6_1 < (l1.length : Int) := of_decide_eq_true asm
                      obtain ⟨ad658, e658, hx658_0, hx658_1, hx658_2, hx658_3⟩ := at_T50 HR1.out x6_1 p658 q658
                      cases e658
                      replace hx658_0 := (HB.out.cell (World.block_lt_of_cell? w _ hx658_0)).trans hx658_0
                      replace hx658_1 := (HB.out.cell (World.block_lt_of_cell? w _ hx658_1)).trans hx658_1
                      replace hx658_2 := (HB.out.cell (World.block_lt_of_cell? w _ hx658_2)).trans hx658_2
                      replace hx658_3 := (HB.out.cell (World.block_lt_of_cell? w _ hx658_3)).trans hx658_3
                      replace p658 := eq_true p658
                      replace q658 := eq_true q658
                      go_wp2_with (first | (go_at_call 69; (with_reducible refine (vellumref01_Check.calls k1 ((rd_T50 l1 x6_1).f0) ((rd_T50 l1 x6_1).f1) ((rd_T50 l1 x6_1).f2) ((rd_T50 l1 x6_1).f3) t659 _ (Glob.below HG.out (bl HB)) A12.out).mono ?_); rintro e w20 ⟨rfl, hb⟩; have n0_ := Aside0.mk (blk_below (bk BK656) hb); have n1_ := Aside0.mk (below_step (bl HB) hb); clear BK656; clear HB; have BK656 := n0_; have HB := n1_; clear n0_ n1_; (try clear hb); (try clear hb2); (try clear hk); (try clear hi); have p660 : 0 ≤ (x6_1 : Int) := of_decide_eq_true asm; have q660 : x6_1 < (l1.length : Int) := of_decide_eq_true asm; obtain ⟨ad660, e660, hx660_0, hx660_1, hx660_2, hx660_3⟩ := at_T50 HR1.out x6_1 p660 q660; obtain rfl : ad658 = ad660 := (by injection e660); replace hx660_0 := (HB.out.cell (World.block_lt_of_cell? w _ hx660_0)).trans hx660_0; replace hx660_1 := (HB.out.cell (World.block_lt_of_cell? w _ hx660_1)).trans hx660_1; replace hx660_2 := (HB.out.cell (World.block_lt_of_cell? w _ hx660_2)).trans hx660_2; replace hx660_3 := (HB.out.cell (World.block_lt_of_cell? w _ hx660_3)).trans hx660_3; replace p660 := eq_true p660; replace q660 := eq_true q660; obtain ⟨hcz21_0, hcz21_1, hcz21_2, hcz21_3, hcz21_4⟩ := bc5 BK656; obtain ⟨hfz21_0, hfz21_1, hfz21_2, hfz21_3, hfz21_4⟩ := bf5 BK656; have p661 : 0 ≤ (x6_1 : Int) := of_decide_eq_true asm; have q661 : x6_1 < (l0_1.length : Int) := of_decide_eq_true asm; obtain ⟨ad661, e661, hx661_0, hx661_1, hx661_2, hx661_3, hx661_4, hx661_5, hx661_6⟩ := at_T105 HR0_1.out x6_1 p661 q661; (try rw [← Nbq16.out] at hx661_2); (try rw [← Nbq16.out] at hw661_2); cases e661; replace hx661_0 := (HB.out.cell (World.block_lt_of_cell? w _ hx661_0)).trans hx661_0; replace hx661_1 := (HB.out.cell (World.block_lt_of_cell? w _ hx661_1)).trans hx661_1; replace hx661_2 := (HB.out.cell (World.block_lt_of_cell? w _ hx661_2)).trans hx661_2; replace hx661_3 := (HB.out.cell (World.block_lt_of_cell? w _ hx661_3)).trans hx661_3; replace hx661_4 := (HB.out.cell (World.block_lt_of_cell? w _ hx661_4)).trans hx661_4; replace hx661_5 := (HB.out.cell (World.block_lt_of_cell? w _ hx661_5)).trans hx661_5; replace hx661_6 := (HB.out.cell (World.block_lt_of_cell? w _ hx661_6)).trans hx661_6; replace p661 := eq_true p661; replace q661 := eq_true q661))
                      repeat (go_quiet (first | (go_at_call 69; (with_reducible refine (vellumref01_Check.calls k1 ((rd_T50 l1 x6_1).f0) ((rd_T50 l1 x6_1).f1) ((rd_T50 l1 x6_1).f2) ((rd_T50 l1 x6_1).f3) t659 _ (Glob.below HG.out (bl HB)) A12.out).mono ?_); rintro e w20 ⟨rfl, hb⟩; have n0_ := Aside0.mk (blk_below (bk BK656) hb); have n1_ := Aside0.mk (below_step (bl HB) hb); clear BK656; clear HB; have BK656 := n0_; have HB := n1_; clear n0_ n1_; (try clear hb); (try clear hb2); (try clear hk); (try clear hi); have p660 : 0 ≤ (x6_1 : Int) := of_decide_eq_true asm; have q660 : x6_1 < (l1.length : Int) := of_decide_eq_true asm; obtain ⟨ad660, e660, hx660_0, hx660_1, hx660_2, hx660_3⟩ := at_T50 HR1.out x6_1 p660 q660; obtain rfl : ad658 = ad660 := (by injection e660); replace hx660_0 := (HB.out.cell (World.block_lt_of_cell? w _ hx660_0)).trans hx660_0; replace hx660_1 := (HB.out.cell (World.block_lt_of_cell? w _ hx660_1)).trans hx660_1; replace hx660_2 := (HB.out.cell (World.block_lt_of_cell? w _ hx660_2)).trans hx660_2; replace hx660_3 := (HB.out.cell (World.block_lt_of_cell? w _ hx660_3)).trans hx660_3; replace p660 := eq_true p660; replace q660 := eq_true q660; obtain ⟨hcz21_0, hcz21_1, hcz21_2, hcz21_3, hcz21_4⟩ := bc5 BK656; obtain ⟨hfz21_0, hfz21_1, hfz21_2, hfz21_3, hfz21_4⟩ := bf5 BK656; have p661 : 0 ≤ (x6_1 : Int) := of_decide_eq_true asm; have q661 : x6_1 < (l0_1.length : Int) := of_decide_eq_true asm; obtain ⟨ad661, e661, hx661_0, hx661_1, hx661_2, hx661_3, hx661_4, hx661_5, hx661_6⟩ := at_T105 HR0_1.out x6_1 p661 q661; (try rw [← Nbq16.out] at hx661_2); (try rw [← Nbq16.out] at hw661_2); cases e661; replace hx661_0 := (HB.out.cell (World.block_lt_of_cell? w _ hx661_0)).trans hx661_0; replace hx661_1 := (HB.out.cell (World.block_lt_of_cell? w _ hx661_1)).trans hx661_1; replace hx661_2 := (HB.out.cell (World.block_lt_of_cell? w _ hx661_2)).trans hx661_2; replace hx661_3 := (HB.out.cell (World.block_lt_of_cell? w _ hx661_3)).trans hx661_3; replace hx661_4 := (HB.out.cell (World.block_lt_of_cell? w _ hx661_4)).trans hx661_4; replace hx661_5 := (HB.out.cell (World.block_lt_of_cell? w _ hx661_5)).trans hx661_5; replace hx661_6 := (HB.out.cell (World.block_lt_of_cell? w _ hx661_6)).trans hx661_6; replace p661 := eq_true p661; replace q661 := eq_true q661)); try go_wp2_with (first | (go_at_call 69; (with_reducible refine (vellumref01_Check.calls k1 ((rd_T50 l1 x6_1).f0) ((rd_T50 l1 x6_1).f1) ((rd_T50 l1 x6_1).f2) ((rd_T50 l1 x6_1).f3) t659 _ (Glob.below HG.out (bl HB)) A12.out).mono ?_); rintro e w20 ⟨rfl, hb⟩; have n0_ := Aside0.mk (blk_below (bk BK656) hb); have n1_ := Aside0.mk (below_step (bl HB) hb); clear BK656; clear HB; have BK656 := n0_; have HB := n1_; clear n0_ n1_; (try clear hb); (try clear hb2); (try clear hk); (try clear hi); have p660 : 0 ≤ (x6_1 : Int) := of_decide_eq_true asm; have q660 : x6_1 < (l1.length : Int) := of_decide_eq_true asm; obtain ⟨ad660, e660, hx660_0, hx660_1, hx660_2, hx660_3⟩ := at_T50 HR1.out x6_1 p660 q660; obtain rfl : ad658 = ad660 := (by injection e660); replace hx660_0 := (HB.out.cell (World.block_lt_of_cell? w _ hx660_0)).trans hx660_0; replace hx660_1 := (HB.out.cell (World.block_lt_of_cell? w _ hx660_1)).trans hx660_1; replace hx660_2 := (HB.out.cell (World.block_lt_of_cell? w _ hx660_2)).trans hx660_2; replace hx660_3 := (HB.out.cell (World.block_lt_of_cell? w _ hx660_3)).trans hx660_3; replace p660 := eq_true p660; replace q660 := eq_true q660; obtain ⟨hcz21_0, hcz21_1, hcz21_2, hcz21_3, hcz21_4⟩ := bc5 BK656; obtain ⟨hfz21_0, hfz21_1, hfz21_2, hfz21_3, hfz21_4⟩ := bf5 BK656; have p661 : 0 ≤ (x6_1 : Int) := of_decide_eq_true asm; have q661 : x6_1 < (l0_1.length : Int) := of_decide_eq_true asm; obtain ⟨ad661, e661, hx661_0, hx661_1, hx661_2, hx661_3, hx661_4, hx661_5, hx661_6⟩ := at_T105 HR0_1.out x6_1 p661 q661; (try rw [← Nbq16.out] at hx661_2); (try rw [← Nbq16.out] at hw661_2); cases e661; replace hx661_0 := (HB.out.cell (World.block_lt_of_cell? w _ hx661_0)).trans hx661_0; replace hx661_1 := (HB.out.cell (World.block_lt_of_cell? w _ hx661_1)).trans hx661_1; replace hx661_2 := (HB.out.cell (World.block_lt_of_cell? w _ hx661_2)).trans hx661_2; replace hx661_3 := (HB.out.cell (World.block_lt_of_cell? w _ hx661_3)).trans hx661_3; replace hx661_4 := (HB.out.cell (World.block_lt_of_cell? w _ hx661_4)).trans hx661_4; replace hx661_5 := (HB.out.cell (World.block_lt_of_cell? w _ hx661_5)).trans hx661_5; replace hx661_6 := (HB.out.cell (World.block_lt_of_cell? w _ hx661_6)).trans hx661_6; replace p661 := eq_true p661; replace q661 := eq_true q661)))
                      go_ret
                      exact ⟨er, bl HB⟩
                  · rw [if_neg c15] at H
                    exact absurd H (by simp)
                · rw [if_neg c14] at H
                  have c14b0 : (((rd_T50 l1 x6_1).f0) == 0) = false := beq_eq_false_iff_ne.mpr c14
                  have c14b1 : (((rd_T50 l1 x6_1).f0) != 0) = true := bne_iff_ne.mpr c14
                  by_cases c22 : x6_1 < (l0_1.length : Int)
                  · rw [if_pos c22] at H
                    have c22b0 : decide (x6_1 < (l0_1.length : Int)) = true := decide_eq_true c22
                    clear c22
                    by_cases c23 : ((rd_T50 l1 x6_1).f0) = ((rd_T105 l0_1 x6_1).f1)
                    · rw [if_pos c23] at H
                      have c23b0 : (((rd_T50 l1 x6_1).f0) == ((rd_T105 l0_1 x6_1).f1)) = true := beq_iff_eq.mpr c23
                      have c23b1 : (((rd_T50 l1 x6_1).f0) != ((rd_T105 l0_1 x6_1).f1)) = false := bne_eq_false_iff_eq.mpr c23
                      clear c23
                      have H' := Aside0.mk H
                      clear H
                      have p658 : 0 ≤ (x6_1 : Int) := of_decide_eq_true asm
                      have q658 : x6_1 < (l1.length : Int) := of_decide_eq_true asm
                      obtain ⟨ad658, e658, hx658_0, hx658_1, hx658_2, hx658_3⟩ := at_T50 HR1.out x6_1 p658 q658
                      cases e658
                      replace hx658_0 := (HB.out.cell (World.block_lt_of_cell? w _ hx658_0)).trans hx658_0
                      replace hx658_1 := (HB.out.cell (World.block_lt_of_cell? w _ hx658_1)).trans hx658_1
                      replace hx658_2 := (HB.out.cell (World.block_lt_of_cell? w _ hx658_2)).trans hx658_2
                      replace hx658_3 := (HB.out.cell (World.block_lt_of_cell? w _ hx658_3)).trans hx658_3
                      replace p658 := eq_true p658
                      replace q658 := eq_true q658
                      go_wp2_with (first | (go_at_call 69; (with_reducible refine (vellumref01_Check.calls k1 ((rd_T50 l1 x6_1).f0) ((rd_T50 l1 x6_1).f1) ((rd_T50 l1 x6_1).f2) ((rd_T50 l1 x6_1).f3) t659 _ (Glob.below HG.out (bl HB)) A12.out).mono ?_); rintro e w24 ⟨rfl, hb⟩; have n0_ := Aside0.mk (blk_below (bk BK656) hb); have n1_ := Aside0.mk (below_step (bl HB) hb); clear BK656; clear HB; have BK656 := n0_; have HB := n1_; clear n0_ n1_; (try clear hb); (try clear hb2); (try clear hk); (try clear hi); have p660 : 0 ≤ (x6_1 : Int) := of_decide_eq_true asm; have q660 : x6_1 < (l1.length : Int) := of_decide_eq_true asm; obtain ⟨ad660, e660, hx660_0, hx660_1, hx660_2, hx660_3⟩ := at_T50 HR1.out x6_1 p660 q660; obtain rfl : ad658 = ad660 := (by injection e660); replace hx660_0 := (HB.out.cell (World.block_lt_of_cell? w _ hx660_0)).trans hx660_0; replace hx660_1 := (HB.out.cell (World.block_lt_of_cell? w _ hx660_1)).trans hx660_1; replace hx660_2 := (HB.out.cell (World.block_lt_of_cell? w _ hx660_2)).trans hx660_2; replace hx660_3 := (HB.out.cell (World.block_lt_of_cell? w _ hx660_3)).trans hx660_3; replace p660 := eq_true p660; replace q660 := eq_true q660; have p662 : 0 ≤ (x6_1 : Int) := of_decide_eq_true asm; have q662 : x6_1 < (l1.length : Int) := of_decide_eq_true asm; obtain ⟨ad662, e662, hx662_0, hx662_1, hx662_2, hx662_3⟩ := at_T50 HR1.out x6_1 p662 q662; obtain rfl : ad658 = ad662 := (by injection e662); replace hx662_0 := (HB.out.cell (World.block_lt_of_cell? w _ hx662_0)).trans hx662_0; replace hx662_1 := (HB.out.cell (World.block_lt_of_cell? w _ hx662_1)).trans hx662_1; replace hx662_2 := (HB.out.cell (World.block_lt_of_cell? w _ hx662_2)).trans hx662_2; replace hx662_3 := (HB.out.cell (World.block_lt_of_cell? w _ hx662_3)).trans hx662_3; replace p662 := eq_true p662; replace q662 := eq_true q662; obtain ⟨hcz25_0, hcz25_1, hcz25_2, hcz25_3, hcz25_4⟩ := bc5 BK656; obtain ⟨hfz25_0, hfz25_1, hfz25_2, hfz25_3, hfz25_4⟩ := bf5 BK656; have p663 : 0 ≤ (x6_1 : Int) := of_decide_eq_true asm; have q663 : x6_1 < (l0_1.length : Int) := of_decide_eq_true asm; obtain ⟨ad663, e663, hx663_0, hx663_1, hx663_2, hx663_3, hx663_4, hx663_5, hx663_6⟩ := at_T105 HR0_1.out x6_1 p663 q663; cases e663; replace hx663_0 := (HB.out.cell (World.block_lt_of_cell? w _ hx663_0)).trans hx663_0; replace hx663_1 := (HB.out.cell (World.block_lt_of_cell? w _ hx663_1)).trans hx663_1; replace hx663_2 := (HB.out.cell (World.block_lt_of_cell? w _ hx663_2)).trans hx663_2; replace hx663_3 := (HB.out.cell (World.block_lt_of_cell? w _ hx663_3)).trans hx663_3; replace hx663_4 := (HB.out.cell (World.block_lt_of_cell? w _ hx663_4)).trans hx663_4; replace hx663_5 := (HB.out.cell (World.block_lt_of_cell? w _ hx663_5)).trans hx663_5; replace hx663_6 := (HB.out.cell (World.block_lt_of_cell? w _ hx663_6)).trans hx663_6; replace p663 := eq_true p663; replace q663 := eq_true q663))
                      repeat (go_quiet (first | (go_at_call 69; (with_reducible refine (vellumref01_Check.calls k1 ((rd_T50 l1 x6_1).f0) ((rd_T50 l1 x6_1).f1) ((rd_T50 l1 x6_1).f2) ((rd_T50 l1 x6_1).f3) t659 _ (Glob.below HG.out (bl HB)) A12.out).mono ?_); rintro e w24 ⟨rfl, hb⟩; have n0_ := Aside0.mk (blk_below (bk BK656) hb); have n1_ := Aside0.mk (below_step (bl HB) hb); clear BK656; clear HB; have BK656 := n0_; have HB := n1_; clear n0_ n1_; (try clear hb); (try clear hb2); (try clear hk); (try clear hi); have p660 : 0 ≤ (x6_1 : Int) := of_decide_eq_true asm; have q660 : x6_1 < (l1.length : Int) := of_decide_eq_true asm; obtain ⟨ad660, e660, hx660_0, hx660_1, hx660_2, hx660_3⟩ := at_T50 HR1.out x6_1 p660 q660; obtain rfl : ad658 = ad660 := (by injection e660); replace hx660_0 := (HB.out.cell (World.block_lt_of_cell? w _ hx660_0)).trans hx660_0; replace hx660_1 := (HB.out.cell (World.block_lt_of_cell? w _ hx660_1)).trans hx660_1; replace hx660_2 := (HB.out.cell (World.block_lt_of_cell? w _ hx660_2)).trans hx660_2; replace hx660_3 := (HB.out.cell (World.block_lt_of_cell? w _ hx660_3)).trans hx660_3; replace p660 := eq_true p660; replace q660 := eq_true q660; have p662 : 0 ≤ (x6_1 : Int) := of_decide_eq_true asm; have q662 : x6_1 < (l1.length : Int) := of_decide_eq_true asm; obtain ⟨ad662, e662, hx662_0, hx662_1, hx662_2, hx662_3⟩ := at_T50 HR1.out x6_1 p662 q662; obtain rfl : ad658 = ad662 := (by injection e662); replace hx662_0 := (HB.out.cell (World.block_lt_of_cell? w _ hx662_0)).trans hx662_0; replace hx662_1 := (HB.out.cell (World.block_lt_of_cell? w _ hx662_1)).trans hx662_1; replace hx662_2 := (HB.out.cell (World.block_lt_of_cell? w _ hx662_2)).trans hx662_2; replace hx662_3 := (HB.out.cell (World.block_lt_of_cell? w _ hx662_3)).trans hx662_3; replace p662 := eq_true p662; replace q662 := eq_true q662; obtain ⟨hcz25_0, hcz25_1, hcz25_2, hcz25_3, hcz25_4⟩ := bc5 BK656; obtain ⟨hfz25_0, hfz25_1, hfz25_2, hfz25_3, hfz25_4⟩ := bf5 BK656; have p663 : 0 ≤ (x6_1 : Int) := of_decide_eq_true asm; have q663 : x6_1 < (l0_1.length : Int) := of_decide_eq_true asm; obtain ⟨ad663, e663, hx663_0, hx663_1, hx663_2, hx663_3, hx663_4, hx663_5, hx663_6⟩ := at_T105 HR0_1.out x6_1 p663 q663; cases e663; replace hx663_0 := (HB.out.cell (World.block_lt_of_cell? w _ hx663_0)).trans hx663_0; replace hx663_1 := (HB.out.cell (World.block_lt_of_cell? w _ hx663_1)).trans hx663_1; replace hx663_2 := (HB.out.cell (World.block_lt_of_cell? w _ hx663_2)).trans hx663_2; replace hx663_3 := (HB.out.cell (World.block_lt_of_cell? w _ hx663_3)).trans hx663_3; replace hx663_4 := (HB.out.cell (World.block_lt_of_cell? w _ hx663_4)).trans hx663_4; replace hx663_5 := (HB.out.cell (World.block_lt_of_cell? w _ hx663_5)).trans hx663_5; replace hx663_6 := (HB.out.cell (World.block_lt_of_cell? w _ hx663_6)).trans hx663_6; replace p663 := eq_true p663; replace q663 := eq_true q663)); try go_wp2_with (first | (go_at_call 69; (with_reducible refine (vellumref01_Check.calls k1 ((rd_T50 l1 x6_1).f0) ((rd_T50 l1 x6_1).f1) ((rd_T50 l1 x6_1).f2) ((rd_T50 l1 x6_1).f3) t659 _ (Glob.below HG.out (bl HB)) A12.out).mono ?_); rintro e w24 ⟨rfl, hb⟩; have n0_ := Aside0.mk (blk_below (bk BK656) hb); have n1_ := Aside0.mk (below_step (bl HB) hb); clear BK656; clear HB; have BK656 := n0_; have HB := n1_; clear n0_ n1_; (try clear hb); (try clear hb2); (try clear hk); (try clear hi); have p660 : 0 ≤ (x6_1 : Int) := of_decide_eq_true asm; have q660 : x6_1 < (l1.length : Int) := of_decide_eq_true asm; obtain ⟨ad660, e660, hx660_0, hx660_1, hx660_2, hx660_3⟩ := at_T50 HR1.out x6_1 p660 q660; obtain rfl : ad658 = ad660 := (by injection e660); replace hx660_0 := (HB.out.cell (World.block_lt_of_cell? w _ hx660_0)).trans hx660_0; replace hx660_1 := (HB.out.cell (World.block_lt_of_cell? w _ hx660_1)).trans hx660_1; replace hx660_2 := (HB.out.cell (World.block_lt_of_cell? w _ hx660_2)).trans hx660_2; replace hx660_3 := (HB.out.cell (World.block_lt_of_cell? w _ hx660_3)).trans hx660_3; replace p660 := eq_true p660; replace q660 := eq_true q660; have p662 : 0 ≤ (x6_1 : Int) := of_decide_eq_true asm; have q662 : x6_1 < (l1.length : Int) := of_decide_eq_true asm; obtain ⟨ad662, e662, hx662_0, hx662_1, hx662_2, hx662_3⟩ := at_T50 HR1.out x6_1 p662 q662; obtain rfl : ad658 = ad662 := (by injection e662); replace hx662_0 := (HB.out.cell (World.block_lt_of_cell? w _ hx662_0)).trans hx662_0; replace hx662_1 := (HB.out.cell (World.block_lt_of_cell? w _ hx662_1)).trans hx662_1; replace hx662_2 := (HB.out.cell (World.block_lt_of_cell? w _ hx662_2)).trans hx662_2; replace hx662_3 := (HB.out.cell (World.block_lt_of_cell? w _ hx662_3)).trans hx662_3; replace p662 := eq_true p662; replace q662 := eq_true q662; obtain ⟨hcz25_0, hcz25_1, hcz25_2, hcz25_3, hcz25_4⟩ := bc5 BK656; obtain ⟨hfz25_0, hfz25_1, hfz25_2, hfz25_3, hfz25_4⟩ := bf5 BK656; have p663 : 0 ≤ (x6_1 : Int) := of_decide_eq_true asm; have q663 : x6_1 < (l0_1.length : Int) := of_decide_eq_true asm; obtain ⟨ad663, e663, hx663_0, hx663_1, hx663_2, hx663_3, hx663_4, hx663_5, hx663_6⟩ := at_T105 HR0_1.out x6_1 p663 q663; cases e663; replace hx663_0 := (HB.out.cell (World.block_lt_of_cell? w _ hx663_0)).trans hx663_0; replace hx663_1 := (HB.out.cell (World.block_lt_of_cell? w _ hx663_1)).trans hx663_1; replace hx663_2 := (HB.out.cell (World.block_lt_of_cell? w _ hx663_2)).trans hx663_2; replace hx663_3 := (HB.out.cell (World.block_lt_of_cell? w _ hx663_3)).trans hx663_3; replace hx663_4 := (HB.out.cell (World.block_lt_of_cell? w _ hx663_4)).trans hx663_4; replace hx663_5 := (HB.out.cell (World.block_lt_of_cell? w _ hx663_5)).trans hx663_5; replace hx663_6 := (HB.out.cell (World.block_lt_of_cell? w _ hx663_6)).trans hx663_6; replace p663 := eq_true p663; replace q663 := eq_true q663)))
                      go_roundg k1
                      case measure => have := HK1.out; omega
                      case rel => exact ⟨(wrap64 (x6_1 + 1)), eb, H', ⟨by have := HK1.out; omega⟩, ⟨bk BK656⟩, ⟨bl HB⟩⟩
                    · rw [if_neg c23] at H
                      have c23b0 : (((rd_T50 l1 x6_1).f0) == ((rd_T105 l0_1 x6_1).f1)) = false := beq_eq_false_iff_ne.mpr c23
                      have c23b1 : (((rd_T50 l1 x6_1).f0) != ((rd_T105 l0_1 x6_1).f1)) = true := bne_iff_ne.mpr c23
                      obtain rfl := Option.some.inj H
                      have p658 : 0 ≤ (x6_1 : Int) := of_decide_eq_true asm
                      have q658 : x6_1 < (l1.length : Int) := of_decide_eq_true asm
                      obtain ⟨ad658, e658, hx658_0, hx658_1, hx658_2, hx658_3⟩ := at_T50 HR1.out x6_1 p658 q658
                      cases e658
                      replace hx658_0 := (HB.out.cell (World.block_lt_of_cell? w _ hx658_0)).trans hx658_0
                      replace hx658_1 := (HB.out.cell (World.block_lt_of_cell? w _ hx658_1)).trans hx658_1
                      replace hx658_2 := (HB.out.cell (World.block_lt_of_cell? w _ hx658_2)).trans hx658_2
                      replace hx658_3 := (HB.out.cell (World.block_lt_of_cell? w _ hx658_3)).trans hx658_3
                      replace p658 := eq_true p658
                      replace q658 := eq_true q658
                      go_wp2_with (first | (go_at_call 69; (with_reducible refine (vellumref01_Check.calls k1 ((rd_T50 l1 x6_1).f0) ((rd_T50 l1 x6_1).f1) ((rd_T50 l1 x6_1).f2) ((rd_T50 l1 x6_1).f3) t659 _ (Glob.below HG.out (bl HB)) A12.out).mono ?_); rintro e w26 ⟨rfl, hb⟩; have n0_ := Aside0.mk (blk_below (bk BK656) hb); have n1_ := Aside0.mk (below_step (bl HB) hb); clear BK656; clear HB; have BK656 := n0_; have HB := n1_; clear n0_ n1_; (try clear hb); (try clear hb2); (try clear hk); (try clear hi); have p660 : 0 ≤ (x6_1 : Int) := of_decide_eq_true asm; have q660 : x6_1 < (l1.length : Int) := of_decide_eq_true asm; obtain ⟨ad660, e660, hx660_0, hx660_1, hx660_2, hx660_3⟩ := at_T50 HR1.out x6_1 p660 q660; obtain rfl : ad658 = ad660 := (by injection e660); replace hx660_0 := (HB.out.cell (World.block_lt_of_cell? w _ hx660_0)).trans hx660_0; replace hx660_1 := (HB.out.cell (World.block_lt_of_cell? w _ hx660_1)).trans hx660_1; replace hx660_2 := (HB.out.cell (World.block_lt_of_cell? w _ hx660_2)).trans hx660_2; replace hx660_3 := (HB.out.cell (World.block_lt_of_cell? w _ hx660_3)).trans hx660_3; replace p660 := eq_true p660; replace q660 := eq_true q660; have p662 : 0 ≤ (x6_1 : Int) := of_decide_eq_true asm; have q662 : x6_1 < (l1.length : Int) := of_decide_eq_true asm; obtain ⟨ad662, e662, hx662_0, hx662_1, hx662_2, hx662_3⟩ := at_T50 HR1.out x6_1 p662 q662; obtain rfl : ad658 = ad662 := (by injection e662); replace hx662_0 := (HB.out.cell (World.block_lt_of_cell? w _ hx662_0)).trans hx662_0; replace hx662_1 := (HB.out.cell (World.block_lt_of_cell? w _ hx662_1)).trans hx662_1; replace hx662_2 := (HB.out.cell (World.block_lt_of_cell? w _ hx662_2)).trans hx662_2; replace hx662_3 := (HB.out.cell (World.block_lt_of_cell? w _ hx662_3)).trans hx662_3; replace p662 := eq_true p662; replace q662 := eq_true q662; obtain ⟨hcz27_0, hcz27_1, hcz27_2, hcz27_3, hcz27_4⟩ := bc5 BK656; obtain ⟨hfz27_0, hfz27_1, hfz27_2, hfz27_3, hfz27_4⟩ := bf5 BK656; have p663 : 0 ≤ (x6_1 : Int) := of_decide_eq_true asm; have q663 : x6_1 < (l0_1.length : Int) := of_decide_eq_true asm; obtain ⟨ad663, e663, hx663_0, hx663_1, hx663_2, hx663_3, hx663_4, hx663_5, hx663_6⟩ := at_T105 HR0_1.out x6_1 p663 q663; cases e663; replace hx663_0 := (HB.out.cell (World.block_lt_of_cell? w _ hx663_0)).trans hx663_0; replace hx663_1 := (HB.out.cell (World.block_lt_of_cell? w _ hx663_1)).trans hx663_1; replace hx663_2 := (HB.out.cell (World.block_lt_of_cell? w _ hx663_2)).trans hx663_2; replace hx663_3 := (HB.out.cell (World.block_lt_of_cell? w _ hx663_3)).trans hx663_3; replace hx663_4 := (HB.out.cell (World.block_lt_of_cell? w _ hx663_4)).trans hx663_4; replace hx663_5 := (HB.out.cell (World.block_lt_of_cell? w _ hx663_5)).trans hx663_5; replace hx663_6 := (HB.out.cell (World.block_lt_of_cell? w _ hx663_6)).trans hx663_6; replace p663 := eq_true p663; replace q663 := eq_true q663))
                      repeat (go_quiet (first | (go_at_call 69; (with_reducible refine (vellumref01_Check.calls k1 ((rd_T50 l1 x6_1).f0) ((rd_T50 l1 x6_1).f1) ((rd_T50 l1 x6_1).f2) ((rd_T50 l1 x6_1).f3) t659 _ (Glob.below HG.out (bl HB)) A12.out).mono ?_); rintro e w26 ⟨rfl, hb⟩; have n0_ := Aside0.mk (blk_below (bk BK656) hb); have n1_ := Aside0.mk (below_step (bl HB) hb); clear BK656; clear HB; have BK656 := n0_; have HB := n1_; clear n0_ n1_; (try clear hb); (try clear hb2); (try clear hk); (try clear hi); have p660 : 0 ≤ (x6_1 : Int) := of_decide_eq_true asm; have q660 : x6_1 < (l1.length : Int) := of_decide_eq_true asm; obtain ⟨ad660, e660, hx660_0, hx660_1, hx660_2, hx660_3⟩ := at_T50 HR1.out x6_1 p660 q660; obtain rfl : ad658 = ad660 := (by injection e660); replace hx660_0 := (HB.out.cell (World.block_lt_of_cell? w _ hx660_0)).trans hx660_0; replace hx660_1 := (HB.out.cell (World.block_lt_of_cell? w _ hx660_1)).trans hx660_1; replace hx660_2 := (HB.out.cell (World.block_lt_of_cell? w _ hx660_2)).trans hx660_2; replace hx660_3 := (HB.out.cell (World.block_lt_of_cell? w _ hx660_3)).trans hx660_3; replace p660 := eq_true p660; replace q660 := eq_true q660; have p662 : 0 ≤ (x6_1 : Int) := of_decide_eq_true asm; have q662 : x6_1 < (l1.length : Int) := of_decide_eq_true asm; obtain ⟨ad662, e662, hx662_0, hx662_1, hx662_2, hx662_3⟩ := at_T50 HR1.out x6_1 p662 q662; obtain rfl : ad658 = ad662 := (by injection e662); replace hx662_0 := (HB.out.cell (World.block_lt_of_cell? w _ hx662_0)).trans hx662_0; replace hx662_1 := (HB.out.cell (World.block_lt_of_cell? w _ hx662_1)).trans hx662_1; replace hx662_2 := (HB.out.cell (World.block_lt_of_cell? w _ hx662_2)).trans hx662_2; replace hx662_3 := (HB.out.cell (World.block_lt_of_cell? w _ hx662_3)).trans hx662_3; replace p662 := eq_true p662; replace q662 := eq_true q662; obtain ⟨hcz27_0, hcz27_1, hcz27_2, hcz27_3, hcz27_4⟩ := bc5 BK656; obtain ⟨hfz27_0, hfz27_1, hfz27_2, hfz27_3, hfz27_4⟩ := bf5 BK656; have p663 : 0 ≤ (x6_1 : Int) := of_decide_eq_true asm; have q663 : x6_1 < (l0_1.length : Int) := of_decide_eq_true asm; obtain ⟨ad663, e663, hx663_0, hx663_1, hx663_2, hx663_3, hx663_4, hx663_5, hx663_6⟩ := at_T105 HR0_1.out x6_1 p663 q663; cases e663; replace hx663_0 := (HB.out.cell (World.block_lt_of_cell? w _ hx663_0)).trans hx663_0; replace hx663_1 := (HB.out.cell (World.block_lt_of_cell? w _ hx663_1)).trans hx663_1; replace hx663_2 := (HB.out.cell (World.block_lt_of_cell? w _ hx663_2)).trans hx663_2; replace hx663_3 := (HB.out.cell (World.block_lt_of_cell? w _ hx663_3)).trans hx663_3; replace hx663_4 := (HB.out.cell (World.block_lt_of_cell? w _ hx663_4)).trans hx663_4; replace hx663_5 := (HB.out.cell (World.block_lt_of_cell? w _ hx663_5)).trans hx663_5; replace hx663_6 := (HB.out.cell (World.block_lt_of_cell? w _ hx663_6)).trans hx663_6; replace p663 := eq_true p663; replace q663 := eq_true q663)); try go_wp2_with (first | (go_at_call 69; (with_reducible refine (vellumref01_Check.calls k1 ((rd_T50 l1 x6_1).f0) ((rd_T50 l1 x6_1).f1) ((rd_T50 l1 x6_1).f2) ((rd_T50 l1 x6_1).f3) t659 _ (Glob.below HG.out (bl HB)) A12.out).mono ?_); rintro e w26 ⟨rfl, hb⟩; have n0_ := Aside0.mk (blk_below (bk BK656) hb); have n1_ := Aside0.mk (below_step (bl HB) hb); clear BK656; clear HB; have BK656 := n0_; have HB := n1_; clear n0_ n1_; (try clear hb); (try clear hb2); (try clear hk); (try clear hi); have p660 : 0 ≤ (x6_1 : Int) := of_decide_eq_true asm; have q660 : x6_1 < (l1.length : Int) := of_decide_eq_true asm; obtain ⟨ad660, e660, hx660_0, hx660_1, hx660_2, hx660_3⟩ := at_T50 HR1.out x6_1 p660 q660; obtain rfl : ad658 = ad660 := (by injection e660); replace hx660_0 := (HB.out.cell (World.block_lt_of_cell? w _ hx660_0)).trans hx660_0; replace hx660_1 := (HB.out.cell (World.block_lt_of_cell? w _ hx660_1)).trans hx660_1; replace hx660_2 := (HB.out.cell (World.block_lt_of_cell? w _ hx660_2)).trans hx660_2; replace hx660_3 := (HB.out.cell (World.block_lt_of_cell? w _ hx660_3)).trans hx660_3; replace p660 := eq_true p660; replace q660 := eq_true q660; have p662 : 0 ≤ (x6_1 : Int) := of_decide_eq_true asm; have q662 : x6_1 < (l1.length : Int) := of_decide_eq_true asm; obtain ⟨ad662, e662, hx662_0, hx662_1, hx662_2, hx662_3⟩ := at_T50 HR1.out x6_1 p662 q662; obtain rfl : ad658 = ad662 := (by injection e662); replace hx662_0 := (HB.out.cell (World.block_lt_of_cell? w _ hx662_0)).trans hx662_0; replace hx662_1 := (HB.out.cell (World.block_lt_of_cell? w _ hx662_1)).trans hx662_1; replace hx662_2 := (HB.out.cell (World.block_lt_of_cell? w _ hx662_2)).trans hx662_2; replace hx662_3 := (HB.out.cell (World.block_lt_of_cell? w _ hx662_3)).trans hx662_3; replace p662 := eq_true p662; replace q662 := eq_true q662; obtain ⟨hcz27_0, hcz27_1, hcz27_2, hcz27_3, hcz27_4⟩ := bc5 BK656; obtain ⟨hfz27_0, hfz27_1, hfz27_2, hfz27_3, hfz27_4⟩ := bf5 BK656; have p663 : 0 ≤ (x6_1 : Int) := of_decide_eq_true asm; have q663 : x6_1 < (l0_1.length : Int) := of_decide_eq_true asm; obtain ⟨ad663, e663, hx663_0, hx663_1, hx663_2, hx663_3, hx663_4, hx663_5, hx663_6⟩ := at_T105 HR0_1.out x6_1 p663 q663; cases e663; replace hx663_0 := (HB.out.cell (World.block_lt_of_cell? w _ hx663_0)).trans hx663_0; replace hx663_1 := (HB.out.cell (World.block_lt_of_cell? w _ hx663_1)).trans hx663_1; replace hx663_2 := (HB.out.cell (World.block_lt_of_cell? w _ hx663_2)).trans hx663_2; replace hx663_3 := (HB.out.cell (World.block_lt_of_cell? w _ hx663_3)).trans hx663_3; replace hx663_4 := (HB.out.cell (World.block_lt_of_cell? w _ hx663_4)).trans hx663_4; replace hx663_5 := (HB.out.cell (World.block_lt_of_cell? w _ hx663_5)).trans hx663_5; replace hx663_6 := (HB.out.cell (World.block_lt_of_cell? w _ hx663_6)).trans hx663_6; replace p663 := eq_true p663; replace q663 := eq_true q663)))
                      go_ret
                      exact ⟨er, bl HB⟩
                  · rw [if_neg c22] at H
                    exact absurd H (by simp)
              · rw [if_neg c13] at H
                have c13b0 : (t659 == 0) = false := beq_eq_false_iff_ne.mpr c13
                have c13b1 : (t659 != 0) = true := bne_iff_ne.mpr c13
                obtain rfl := Option.some.inj H
                have p658 : 0 ≤ (x6_1 : Int) := of_decide_eq_true asm
                have q658 : x6_1 < (l1.length : Int) := of_decide_eq_true asm
                obtain ⟨ad658, e658, hx658_0, hx658_1, hx658_2, hx658_3⟩ := at_T50 HR1.out x6_1 p658 q658
                cases e658
                replace hx658_0 := (HB.out.cell (World.block_lt_of_cell? w _ hx658_0)).trans hx658_0
                replace hx658_1 := (HB.out.cell (World.block_lt_of_cell? w _ hx658_1)).trans hx658_1
                replace hx658_2 := (HB.out.cell (World.block_lt_of_cell? w _ hx658_2)).trans hx658_2
                replace hx658_3 := (HB.out.cell (World.block_lt_of_cell? w _ hx658_3)).trans hx658_3
                replace p658 := eq_true p658
                replace q658 := eq_true q658
                go_wp2_with (first | (go_at_call 69; (with_reducible refine (vellumref01_Check.calls k1 ((rd_T50 l1 x6_1).f0) ((rd_T50 l1 x6_1).f1) ((rd_T50 l1 x6_1).f2) ((rd_T50 l1 x6_1).f3) t659 _ (Glob.below HG.out (bl HB)) A12.out).mono ?_); rintro e w28 ⟨rfl, hb⟩; have n0_ := Aside0.mk (blk_below (bk BK656) hb); have n1_ := Aside0.mk (below_step (bl HB) hb); clear BK656; clear HB; have BK656 := n0_; have HB := n1_; clear n0_ n1_; (try clear hb); (try clear hb2); (try clear hk); (try clear hi)))
                repeat (go_quiet (first | (go_at_call 69; (with_reducible refine (vellumref01_Check.calls k1 ((rd_T50 l1 x6_1).f0) ((rd_T50 l1 x6_1).f1) ((rd_T50 l1 x6_1).f2) ((rd_T50 l1 x6_1).f3) t659 _ (Glob.below HG.out (bl HB)) A12.out).mono ?_); rintro e w28 ⟨rfl, hb⟩; have n0_ := Aside0.mk (blk_below (bk BK656) hb); have n1_ := Aside0.mk (below_step (bl HB) hb); clear BK656; clear HB; have BK656 := n0_; have HB := n1_; clear n0_ n1_; (try clear hb); (try clear hb2); (try clear hk); (try clear hi))); try go_wp2_with (first | (go_at_call 69; (with_reducible refine (vellumref01_Check.calls k1 ((rd_T50 l1 x6_1).f0) ((rd_T50 l1 x6_1).f1) ((rd_T50 l1 x6_1).f2) ((rd_T50 l1 x6_1).f3) t659 _ (Glob.below HG.out (bl HB)) A12.out).mono ?_); rintro e w28 ⟨rfl, hb⟩; have n0_ := Aside0.mk (blk_below (bk BK656) hb); have n1_ := Aside0.mk (below_step (bl HB) hb); clear BK656; clear HB; have BK656 := n0_; have HB := n1_; clear n0_ n1_; (try clear hb); (try clear hb2); (try clear hk); (try clear hi))))
                go_ret
                exact ⟨er, bl HB⟩
            · rw [if_neg c11] at H
              exact absurd H (by simp)
          · rw [if_neg c10] at H
            have c10b0 : decide (x6_1 < (l1.length : Int)) = false := decide_eq_false c10
            clear c10
            obtain rfl := Option.some.inj H
            go_wp2
            repeat (go_quiet (fail); try go_wp2)
            go_ret
            exact ⟨er, bl HB⟩
    · rw [if_neg c5] at H
      have c5b0 : ((l1.length : Int) == (l0_1.length : Int)) = false := beq_eq_false_iff_ne.mpr c5
      have c5b1 : ((l1.length : Int) != (l0_1.length : Int)) = true := bne_iff_ne.mpr c5
      have c5b2 : (l1.length == l0_1.length) = false := by first | simpa using c5 | (simp at c5 ⊢; omega)
      obtain rfl := Option.some.inj H
      go_enter Tryd.func85, Tryd.ntmps85
      go_wp2_with (first | ((with_reducible refine gate_dst (N := 2) rfl ?_); refine box_event rfl (N := 2) rfl (cs := #[.string a0_0, .slice A0_1 l0_1.length c0_1, .slice A0_2 l0_2.length c0_2, .slice A0_3 l0_3.length c0_3, .slice A0_4 l0_4.length c0_4]) (t := 65) gs ?_; intro gb656 hg w29 hbox hb; have n0_ := Aside0.mk (below_step (bl HB) hb); have n1_ := Aside0.mk (hbox); have n2_ := Aside0.mk ((by rw [hg]; exact (below_size (bl HB)) : w.heap.size ≤ gb656)); have n3_ := Aside0.mk ((by rw [hg]; exact (below_size (bl HB)) : w.heap.size ≤ gb656)); clear HB; have HB := n0_; have BK656 := n1_; have GW656 := n2_; have GE656 := n3_; clear n0_ n1_ n2_ n3_; clear hb hbox hg; obtain ⟨hcz30_0, hcz30_1, hcz30_2, hcz30_3, hcz30_4⟩ := bc5 BK656; obtain ⟨hfz30_0, hfz30_1, hfz30_2, hfz30_3, hfz30_4⟩ := bf5 BK656) | (go_at_call 93; (with_reducible refine (vellumref03_Check.calls k a0_0 _ _ l0_1 _ _ l0_2 _ _ l0_3 _ _ l0_4 t657 _ (Kd.cb HR0_1 HB) HC0_1.out (Kd.cb HR0_2 HB) HC0_2.out (Kd.cb HR0_3 HB) HC0_3.out (Kd.cb HR0_4 HB) HC0_4.out (Glob.below HG.out (bl HB)) A3.out).mono ?_); rintro e w31 ⟨rfl, hb⟩; have n0_ := Aside0.mk (blk_below (bk BK656) hb); have n1_ := Aside0.mk (below_step (bl HB) hb); clear BK656; clear HB; have BK656 := n0_; have HB := n1_; clear n0_ n1_; (try clear hb); (try clear hb2); (try clear hk); (try clear hi); obtain ⟨hcz32_0, hcz32_1, hcz32_2, hcz32_3, hcz32_4⟩ := bc5 BK656; obtain ⟨hfz32_0, hfz32_1, hfz32_2, hfz32_3, hfz32_4⟩ := bf5 BK656))
      repeat (go_quiet (first | ((with_reducible refine gate_dst (N := 2) rfl ?_); refine box_event rfl (N := 2) rfl (cs := #[.string a0_0, .slice A0_1 l0_1.length c0_1, .slice A0_2 l0_2.length c0_2, .slice A0_3 l0_3.length c0_3, .slice A0_4 l0_4.length c0_4]) (t := 65) gs ?_; intro gb656 hg w29 hbox hb; have n0_ := Aside0.mk (below_step (bl HB) hb); have n1_ := Aside0.mk (hbox); have n2_ := Aside0.mk ((by rw [hg]; exact (below_size (bl HB)) : w.heap.size ≤ gb656)); have n3_ := Aside0.mk ((by rw [hg]; exact (below_size (bl HB)) : w.heap.size ≤ gb656)); clear HB; have HB := n0_; have BK656 := n1_; have GW656 := n2_; have GE656 := n3_; clear n0_ n1_ n2_ n3_; clear hb hbox hg; obtain ⟨hcz30_0, hcz30_1, hcz30_2, hcz30_3, hcz30_4⟩ := bc5 BK656; obtain ⟨hfz30_0, hfz30_1, hfz30_2, hfz30_3, hfz30_4⟩ := bf5 BK656) | (go_at_call 93; (with_reducible refine (vellumref03_Check.calls k a0_0 _ _ l0_1 _ _ l0_2 _ _ l0_3 _ _ l0_4 t657 _ (Kd.cb HR0_1 HB) HC0_1.out (Kd.cb HR0_2 HB) HC0_2.out (Kd.cb HR0_3 HB) HC0_3.out (Kd.cb HR0_4 HB) HC0_4.out (Glob.below HG.out (bl HB)) A3.out).mono ?_); rintro e w31 ⟨rfl, hb⟩; have n0_ := Aside0.mk (blk_below (bk BK656) hb); have n1_ := Aside0.mk (below_step (bl HB) hb); clear BK656; clear HB; have BK656 := n0_; have HB := n1_; clear n0_ n1_; (try clear hb); (try clear hb2); (try clear hk); (try clear hi); obtain ⟨hcz32_0, hcz32_1, hcz32_2, hcz32_3, hcz32_4⟩ := bc5 BK656; obtain ⟨hfz32_0, hfz32_1, hfz32_2, hfz32_3, hfz32_4⟩ := bf5 BK656)); try go_wp2_with (first | ((with_reducible refine gate_dst (N := 2) rfl ?_); refine box_event rfl (N := 2) rfl (cs := #[.string a0_0, .slice A0_1 l0_1.length c0_1, .slice A0_2 l0_2.length c0_2, .slice A0_3 l0_3.length c0_3, .slice A0_4 l0_4.length c0_4]) (t := 65) gs ?_; intro gb656 hg w29 hbox hb; have n0_ := Aside0.mk (below_step (bl HB) hb); have n1_ := Aside0.mk (hbox); have n2_ := Aside0.mk ((by rw [hg]; exact (below_size (bl HB)) : w.heap.size ≤ gb656)); have n3_ := Aside0.mk ((by rw [hg]; exact (below_size (bl HB)) : w.heap.size ≤ gb656)); clear HB; have HB := n0_; have BK656 := n1_; have GW656 := n2_; have GE656 := n3_; clear n0_ n1_ n2_ n3_; clear hb hbox hg; obtain ⟨hcz30_0, hcz30_1, hcz30_2, hcz30_3, hcz30_4⟩ := bc5 BK656; obtain ⟨hfz30_0, hfz30_1, hfz30_2, hfz30_3, hfz30_4⟩ := bf5 BK656) | (go_at_call 93; (with_reducible refine (vellumref03_Check.calls k a0_0 _ _ l0_1 _ _ l0_2 _ _ l0_3 _ _ l0_4 t657 _ (Kd.cb HR0_1 HB) HC0_1.out (Kd.cb HR0_2 HB) HC0_2.out (Kd.cb HR0_3 HB) HC0_3.out (Kd.cb HR0_4 HB) HC0_4.out (Glob.below HG.out (bl HB)) A3.out).mono ?_); rintro e w31 ⟨rfl, hb⟩; have n0_ := Aside0.mk (blk_below (bk BK656) hb); have n1_ := Aside0.mk (below_step (bl HB) hb); clear BK656; clear HB; have BK656 := n0_; have HB := n1_; clear n0_ n1_; (try clear hb); (try clear hb2); (try clear hk); (try clear hi); obtain ⟨hcz32_0, hcz32_1, hcz32_2, hcz32_3, hcz32_4⟩ := bc5 BK656; obtain ⟨hfz32_0, hfz32_1, hfz32_2, hfz32_3, hfz32_4⟩ := bf5 BK656)))
      go_ret
      exact ⟨er, bl HB⟩
  · rw [if_neg c4] at H
    have c4b0 : (t657 == 0) = false := beq_eq_false_iff_ne.mpr c4
    have c4b1 : (t657 != 0) = true := bne_iff_ne.mpr c4
    obtain rfl := Option.some.inj H
    go_enter Tryd.func85, Tryd.ntmps85
    go_wp2_with (first | ((with_reducible refine gate_dst (N := 2) rfl ?_); refine box_event rfl (N := 2) rfl (cs := #[.string a0_0, .slice A0_1 l0_1.length c0_1, .slice A0_2 l0_2.length c0_2, .slice A0_3 l0_3.length c0_3, .slice A0_4 l0_4.length c0_4]) (t := 65) gs ?_; intro gb656 hg w33 hbox hb; have n0_ := Aside0.mk (below_step (bl HB) hb); have n1_ := Aside0.mk (hbox); have n2_ := Aside0.mk ((by rw [hg]; exact (below_size (bl HB)) : w.heap.size ≤ gb656)); have n3_ := Aside0.mk ((by rw [hg]; exact (below_size (bl HB)) : w.heap.size ≤ gb656)); clear HB; have HB := n0_; have BK656 := n1_; have GW656 := n2_; have GE656 := n3_; clear n0_ n1_ n2_ n3_; clear hb hbox hg; obtain ⟨hcz34_0, hcz34_1, hcz34_2, hcz34_3, hcz34_4⟩ := bc5 BK656; obtain ⟨hfz34_0, hfz34_1, hfz34_2, hfz34_3, hfz34_4⟩ := bf5 BK656) | (go_at_call 93; (with_reducible refine (vellumref03_Check.calls k a0_0 _ _ l0_1 _ _ l0_2 _ _ l0_3 _ _ l0_4 t657 _ (Kd.cb HR0_1 HB) HC0_1.out (Kd.cb HR0_2 HB) HC0_2.out (Kd.cb HR0_3 HB) HC0_3.out (Kd.cb HR0_4 HB) HC0_4.out (Glob.below HG.out (bl HB)) A3.out).mono ?_); rintro e w35 ⟨rfl, hb⟩; have n0_ := Aside0.mk (blk_below (bk BK656) hb); have n1_ := Aside0.mk (below_step (bl HB) hb); clear BK656; clear HB; have BK656 := n0_; have HB := n1_; clear n0_ n1_; (try clear hb); (try clear hb2); (try clear hk); (try clear hi)))
    repeat (go_quiet (first | ((with_reducible refine gate_dst (N := 2) rfl ?_); refine box_event rfl (N := 2) rfl (cs := #[.string a0_0, .slice A0_1 l0_1.length c0_1, .slice A0_2 l0_2.length c0_2, .slice A0_3 l0_3.length c0_3, .slice A0_4 l0_4.length c0_4]) (t := 65) gs ?_; intro gb656 hg w33 hbox hb; have n0_ := Aside0.mk (below_step (bl HB) hb); have n1_ := Aside0.mk (hbox); have n2_ := Aside0.mk ((by rw [hg]; exact (below_size (bl HB)) : w.heap.size ≤ gb656)); have n3_ := Aside0.mk ((by rw [hg]; exact (below_size (bl HB)) : w.heap.size ≤ gb656)); clear HB; have HB := n0_; have BK656 := n1_; have GW656 := n2_; have GE656 := n3_; clear n0_ n1_ n2_ n3_; clear hb hbox hg; obtain ⟨hcz34_0, hcz34_1, hcz34_2, hcz34_3, hcz34_4⟩ := bc5 BK656; obtain ⟨hfz34_0, hfz34_1, hfz34_2, hfz34_3, hfz34_4⟩ := bf5 BK656) | (go_at_call 93; (with_reducible refine (vellumref03_Check.calls k a0_0 _ _ l0_1 _ _ l0_2 _ _ l0_3 _ _ l0_4 t657 _ (Kd.cb HR0_1 HB) HC0_1.out (Kd.cb HR0_2 HB) HC0_2.out (Kd.cb HR0_3 HB) HC0_3.out (Kd.cb HR0_4 HB) HC0_4.out (Glob.below HG.out (bl HB)) A3.out).mono ?_); rintro e w35 ⟨rfl, hb⟩; have n0_ := Aside0.mk (blk_below (bk BK656) hb); have n1_ := Aside0.mk (below_step (bl HB) hb); clear BK656; clear HB; have BK656 := n0_; have HB := n1_; clear n0_ n1_; (try clear hb); (try clear hb2); (try clear hk); (try clear hi))); try go_wp2_with (first | ((with_reducible refine gate_dst (N := 2) rfl ?_); refine box_event rfl (N := 2) rfl (cs := #[.string a0_0, .slice A0_1 l0_1.length c0_1, .slice A0_2 l0_2.length c0_2, .slice A0_3 l0_3.length c0_3, .slice A0_4 l0_4.length c0_4]) (t := 65) gs ?_; intro gb656 hg w33 hbox hb; have n0_ := Aside0.mk (below_step (bl HB) hb); have n1_ := Aside0.mk (hbox); have n2_ := Aside0.mk ((by rw [hg]; exact (below_size (bl HB)) : w.heap.size ≤ gb656)); have n3_ := Aside0.mk ((by rw [hg]; exact (below_size (bl HB)) : w.heap.size ≤ gb656)); clear HB; have HB := n0_; have BK656 := n1_; have GW656 := n2_; have GE656 := n3_; clear n0_ n1_ n2_ n3_; clear hb hbox hg; obtain ⟨hcz34_0, hcz34_1, hcz34_2, hcz34_3, hcz34_4⟩ := bc5 BK656; obtain ⟨hfz34_0, hfz34_1, hfz34_2, hfz34_3, hfz34_4⟩ := bf5 BK656) | (go_at_call 93; (with_reducible refine (vellumref03_Check.calls k a0_0 _ _ l0_1 _ _ l0_2 _ _ l0_3 _ _ l0_4 t657 _ (Kd.cb HR0_1 HB) HC0_1.out (Kd.cb HR0_2 HB) HC0_2.out (Kd.cb HR0_3 HB) HC0_3.out (Kd.cb HR0_4 HB) HC0_4.out (Glob.below HG.out (bl HB)) A3.out).mono ?_); rintro e w35 ⟨rfl, hb⟩; have n0_ := Aside0.mk (blk_below (bk BK656) hb); have n1_ := Aside0.mk (below_step (bl HB) hb); clear BK656; clear HB; have BK656 := n0_; have HB := n1_; clear n0_ n1_; (try clear hb); (try clear hb2); (try clear hk); (try clear hi))))
    go_ret
    exact ⟨er, bl HB⟩
def vellumref04_pair.f (a0_0 : Int) (a0_1 : Int) (a0_2 : Nat) (a0_3 : ByteArray) : Option (Int) := if a0_0 = 0 then (some 0) else (if a0_0 = 1 then (if a0_1 = 1 then (some 2) else (some 1)) else (some 1))
set_option maxHeartbeats 8000000 in
set_option maxRecDepth 100000 in
theorem vellumref04_pair.calls (a0_0 : Int) (a0_1 : Int) (a0_2 : Nat) (a0_3 : ByteArray) (r : Int) (w : World) (h : vellumref04_pair.f a0_0 a0_1 a0_2 a0_3 = some r) :
    Calls Tryd.prog 121 #[.agg #[.int .i64 a0_0, .int .i64 a0_1, .float .f64 a0_2, .string a0_3]] w fun e w' => e = .returned (.int .u8 r) ∧ Below w.heap.size w w' := by
  have hu50 := Tryd.underlying50
  have HB := Aside0.mk (Below.refl w.heap.size w)
  have H : (if a0_0 = 0 then (some 0) else (if a0_0 = 1 then (if a0_1 = 1 then (some 2) else (some 1)) else (some 1))) = some r := h
  clear h
  by_cases c2 : a0_0 = 0
  · rw [if_pos c2] at H
    have c2b0 : (a0_0 == 0) = true := beq_iff_eq.mpr c2
    have c2b1 : (a0_0 != 0) = false := bne_eq_false_iff_eq.mpr c2
    clear c2
    obtain rfl := Option.some.inj H
    go_enter Tryd.func121, Tryd.ntmps121
    go_wp2_with (first | ((with_reducible refine gate_dst (N := 1) rfl ?_); refine box_event rfl (N := 1) rfl (cs := #[.int .i64 a0_0, .int .i64 a0_1, .float .f64 a0_2, .string a0_3]) (t := 50) gs ?_; intro gb664 hg w3 hbox hb; have n0_ := Aside0.mk (below_step (bl HB) hb); have n1_ := Aside0.mk (hbox); have n2_ := Aside0.mk ((by rw [hg]; exact (below_size (bl HB)) : w.heap.size ≤ gb664)); have n3_ := Aside0.mk ((by rw [hg]; exact (below_size (bl HB)) : w.heap.size ≤ gb664)); clear HB; have HB := n0_; have BK664 := n1_; have GW664 := n2_; have GE664 := n3_; clear n0_ n1_ n2_ n3_; clear hb hbox hg; obtain ⟨hcz4_0, hcz4_1, hcz4_2, hcz4_3⟩ := bc4 BK664; obtain ⟨hfz4_0, hfz4_1, hfz4_2, hfz4_3⟩ := bf4 BK664))
    go_ret
    exact ⟨er, bl HB⟩
  · rw [if_neg c2] at H
    have c2b0 : (a0_0 == 0) = false := beq_eq_false_iff_ne.mpr c2
    have c2b1 : (a0_0 != 0) = true := bne_iff_ne.mpr c2
    by_cases c5 : a0_0 = 1
    · rw [if_pos c5] at H
      have c5b0 : (a0_0 == 1) = true := beq_iff_eq.mpr c5
      have c5b1 : (a0_0 != 1) = false := bne_eq_false_iff_eq.mpr c5
      clear c5
      by_cases c6 : a0_1 = 1
      · rw [if_pos c6] at H
        have c6b0 : (a0_1 == 1) = true := beq_iff_eq.mpr c6
        have c6b1 : (a0_1 != 1) = false := bne_eq_false_iff_eq.mpr c6
        clear c6
        obtain rfl := Option.some.inj H
        go_enter Tryd.func121, Tryd.ntmps121
        go_wp2_with (first | ((with_reducible refine gate_dst (N := 1) rfl ?_); refine box_event rfl (N := 1) rfl (cs := #[.int .i64 a0_0, .int .i64 a0_1, .float .f64 a0_2, .string a0_3]) (t := 50) gs ?_; intro gb664 hg w7 hbox hb; have n0_ := Aside0.mk (below_step (bl HB) hb); have n1_ := Aside0.mk (hbox); have n2_ := Aside0.mk ((by rw [hg]; exact (below_size (bl HB)) : w.heap.size ≤ gb664)); have n3_ := Aside0.mk ((by rw [hg]; exact (below_size (bl HB)) : w.heap.size ≤ gb664)); clear HB; have HB := n0_; have BK664 := n1_; have GW664 := n2_; have GE664 := n3_; clear n0_ n1_ n2_ n3_; clear hb hbox hg; obtain ⟨hcz8_0, hcz8_1, hcz8_2, hcz8_3⟩ := bc4 BK664; obtain ⟨hfz8_0, hfz8_1, hfz8_2, hfz8_3⟩ := bf4 BK664))
        go_ret
        exact ⟨er, bl HB⟩
      · rw [if_neg c6] at H
        have c6b0 : (a0_1 == 1) = false := beq_eq_false_iff_ne.mpr c6
        have c6b1 : (a0_1 != 1) = true := bne_iff_ne.mpr c6
        obtain rfl := Option.some.inj H
        go_enter Tryd.func121, Tryd.ntmps121
        go_wp2_with (first | ((with_reducible refine gate_dst (N := 1) rfl ?_); refine box_event rfl (N := 1) rfl (cs := #[.int .i64 a0_0, .int .i64 a0_1, .float .f64 a0_2, .string a0_3]) (t := 50) gs ?_; intro gb664 hg w9 hbox hb; have n0_ := Aside0.mk (below_step (bl HB) hb); have n1_ := Aside0.mk (hbox); have n2_ := Aside0.mk ((by rw [hg]; exact (below_size (bl HB)) : w.heap.size ≤ gb664)); have n3_ := Aside0.mk ((by rw [hg]; exact (below_size (bl HB)) : w.heap.size ≤ gb664)); clear HB; have HB := n0_; have BK664 := n1_; have GW664 := n2_; have GE664 := n3_; clear n0_ n1_ n2_ n3_; clear hb hbox hg; obtain ⟨hcz10_0, hcz10_1, hcz10_2, hcz10_3⟩ := bc4 BK664; obtain ⟨hfz10_0, hfz10_1, hfz10_2, hfz10_3⟩ := bf4 BK664))
        go_ret
        exact ⟨er, bl HB⟩
    · rw [if_neg c5] at H
      have c5b0 : (a0_0 == 1) = false := beq_eq_false_iff_ne.mpr c5
      have c5b1 : (a0_0 != 1) = true := bne_iff_ne.mpr c5
      obtain rfl := Option.some.inj H
      go_enter Tryd.func121, Tryd.ntmps121
      go_wp2_with (first | ((with_reducible refine gate_dst (N := 1) rfl ?_); refine box_event rfl (N := 1) rfl (cs := #[.int .i64 a0_0, .int .i64 a0_1, .float .f64 a0_2, .string a0_3]) (t := 50) gs ?_; intro gb664 hg w11 hbox hb; have n0_ := Aside0.mk (below_step (bl HB) hb); have n1_ := Aside0.mk (hbox); have n2_ := Aside0.mk ((by rw [hg]; exact (below_size (bl HB)) : w.heap.size ≤ gb664)); have n3_ := Aside0.mk ((by rw [hg]; exact (below_size (bl HB)) : w.heap.size ≤ gb664)); clear HB; have HB := n0_; have BK664 := n1_; have GW664 := n2_; have GE664 := n3_; clear n0_ n1_ n2_ n3_; clear hb hbox hg; obtain ⟨hcz12_0, hcz12_1, hcz12_2, hcz12_3⟩ := bc4 BK664; obtain ⟨hfz12_0, hfz12_1, hfz12_2, hfz12_3⟩ := bf4 BK664))
      go_ret
      exact ⟨er, bl HB⟩
def vellumref04_varint.l0 : Nat → Int → List Int → Option (List Int)
  | 0, _, _ => none
  | k + 1, x0, x3 => if x0 > 127 then (if x3.length < 140737488355328 then (vellumref04_varint.l0 k (x0 / 128) (x3 ++ [(Go.bits .or .u64 (Go.bits .and .u64 x0 127) 128) % 256])) else (none)) else (if x3.length < 140737488355328 then (some (x3 ++ [(x0) % 256])) else (none))
def vellumref04_varint.f (k : Nat) (a0 : Int) : Option (List Int) := vellumref04_varint.l0 k a0 ([] : List Int)
set_option maxHeartbeats 8000000 in
set_option maxRecDepth 100000 in
theorem vellumref04_varint.calls (k : Nat) (a0 : Int) (r : List Int) (w : World) (h : vellumref04_varint.f k a0 = some r) :
    Calls Tryd.prog 90 #[.int .u64 a0] w fun e w' => ∃ v0_ : Value, e = .returned (v0_) ∧ Kd.R (Kd.int .u8) 5 w' w.heap.size (fun _ => True) v0_ r ∧ Below w.heap.size w w' := by
  have HB := Aside0.mk (Below.refl w.heap.size w)
  have H : (vellumref04_varint.l0 k a0 ([] : List Int)) = some r := h
  clear h
  have H' := Aside0.mk H
  clear H
  go_enter Tryd.func90, Tryd.ntmps90
  go_wp2
  go_loopg [0, 3] k (fun kq v0 v3 w' => ∃ (x0_1 : Int) (x3_1 : List Int), v0 = .int .u64 x0_1 ∧ Aside0 (vellumref04_varint.l0 kq x0_1 x3_1 = some r) ∧ Aside0 (kq ≤ k) ∧ Aside0 (Kd.R (Kd.int .u8) 5 w' w.heap.size (fun _ => True) v3 x3_1) ∧ Aside0 (Below w.heap.size w w'))
  case atStart => exact ⟨(a0), (([] : List Int)), eb, H', ⟨Nat.le_refl _⟩, ⟨by first | exact Kd.R_nil _ _ _ _ _ | exact Kd.N_nil _ _ _ _ _ | exact Kd.V_nil _ _ _ _ _ | exact Kd.Q_nil _ _ _ _ _ | exact Kd.S_nil _ _ _ _ _⟩, ⟨bl HB⟩⟩
  case round =>
    clear H'
    obtain ⟨x0_1, x3_1, rfl, HA, HK1, HO_3, HB⟩ := hrel
    cases gk with
    | zero => exact absurd HA.out (by simp [vellumref04_varint.l0])
    | succ k1 =>
      have H := HA.out
      clear HA
      simp only [vellumref04_varint.l0] at H
      by_cases c2 : x0_1 > 127
      · rw [if_pos c2] at H
        have c2b0 : decide (127 < x0_1) = true := decide_eq_true c2
        clear c2
        by_cases c3 : x3_1.length < 140737488355328
        · rw [if_pos c3] at H
          have LMc3 := Aside0.mk c3
          clear c3
          obtain ⟨y665, hy665⟩ : ∃ y_ : List Int, y_ = (x3_1 ++ [(Go.bits .or .u64 (Go.bits .and .u64 x0_1 127) 128) % 256]) := ⟨_, rfl⟩
          replace H : (vellumref04_varint.l0 k1 (x0_1 / 128) y665) = some r := by first | (rw [hy665]; with_reducible exact H) | (have H2_ := (Option.bind_some _ _).symm.trans H; rw [hy665]; with_reducible exact H2_) | (have H2_ := (Option.bind_some _ _).symm.trans H; with_reducible exact H2_) | with_reducible exact H | (rw [hy665]; exact H) | exact H
          have Ny665 := Aside0.mk hy665
          clear hy665
          have H' := Aside0.mk H
          clear H
          go_wp2_with (first | ((with_reducible refine gate_builtin (b := .append) (xs := #[.tmp 6, .tmp 11]) rfl ?_); at_builtin; refine Kd.R_append (Kd.int .u8) (w0 := w) w.heap.size rfl (.tmp 6) (.tmp 11) 80 5 (.int .u8 0) 1 rfl Tryd.underlying80 info5 rfl (by decide) (by omega) u3 x3_1 ((Go.bits .or .u64 (Go.bits .and .u64 x0_1 127) 128) % 256) [.int .u8 ((Go.bits .or .u64 (Go.bits .and .u64 x0_1 127) 128) % 256)] (fun _ => True) (fun _ => False) rfl rfl ?aP (fun _ hk => hk.elim) ?aF ?aO ?aB ?aS ?aL ?_; (case aP => exact rfl); (case aB => exact (bl HB)); (case aF => exact (fun _ _ => trivial)); (case aO => exact (by (with_reducible repeat (first | apply Kd.R_alloc | apply Kd.R_drewN | apply Kd.R_drew)); exact HO_3.out)); (case aS => exact (below_size (bl HB))); (case aL => have := LMc3.out; omega); intro v666 w4 ho hb hg hat; rw [← Ny665.out] at ho; have n0_ := Aside0.mk (hb); have n1_ := Aside0.mk (ho); clear HB; clear HO_3; have HB := n0_; have HO667 := n1_; clear n0_ n1_; clear ho hb hg hat))
          go_roundg k1
          case measure => have := HK1.out; omega
          case rel => exact ⟨(x0_1 / 128), (y665), eb, H', ⟨by have := HK1.out; omega⟩, ⟨by (with_reducible repeat (first | apply Kd.R_alloc | apply Kd.R_drewN | apply Kd.R_drew)); exact HO667.out⟩, ⟨bl HB⟩⟩
        · rw [if_neg c3] at H
          exact absurd H (by simp)
      · rw [if_neg c2] at H
        have c2b0 : decide (127 < x0_1) = false := decide_eq_false c2
        clear c2
        by_cases c5 : x3_1.length < 140737488355328
        · rw [if_pos c5] at H
          have LMc5 := Aside0.mk c5
          clear c5
          obtain ⟨y668, hy668⟩ : ∃ y_ : List Int, y_ = (x3_1 ++ [(x0_1) % 256]) := ⟨_, rfl⟩
          replace H : (some y668) = some r := by first | (rw [hy668]; with_reducible exact H) | (have H2_ := (Option.bind_some _ _).symm.trans H; rw [hy668]; with_reducible exact H2_) | (have H2_ := (Option.bind_some _ _).symm.trans H; with_reducible exact H2_) | with_reducible exact H | (rw [hy668]; exact H) | exact H
          have Ny668 := Aside0.mk hy668
          clear hy668
          obtain rfl := Option.some.inj H
          go_wp2_with (first | ((with_reducible refine gate_builtin (b := .append) (xs := #[.tmp 15, .tmp 18]) rfl ?_); at_builtin; refine Kd.R_append (Kd.int .u8) (w0 := w) w.heap.size rfl (.tmp 15) (.tmp 18) 80 5 (.int .u8 0) 1 rfl Tryd.underlying80 info5 rfl (by decide) (by omega) u3 x3_1 ((x0_1) % 256) [.int .u8 ((x0_1) % 256)] (fun _ => True) (fun _ => False) rfl rfl ?aP (fun _ hk => hk.elim) ?aF ?aO ?aB ?aS ?aL ?_; (case aP => exact rfl); (case aB => exact (bl HB)); (case aF => exact (fun _ _ => trivial)); (case aO => exact (by (with_reducible repeat (first | apply Kd.R_alloc | apply Kd.R_drewN | apply Kd.R_drew)); exact HO_3.out)); (case aS => exact (below_size (bl HB))); (case aL => have := LMc5.out; omega); intro v669 w6 ho hb hg hat; rw [← Ny668.out] at ho; have n0_ := Aside0.mk (hb); have n1_ := Aside0.mk (ho); clear HB; clear HO_3; have HB := n0_; have HO670 := n1_; clear n0_ n1_; clear ho hb hg hat))
          go_ret
          exact ⟨_, er, by (with_reducible repeat (first | apply Kd.R_alloc | apply Kd.R_drewN | apply Kd.R_drew)); exact HO670.out, bl HB⟩
        · rw [if_neg c5] at H
          exact absurd H (by simp)
def vellumref04_zigzag.f (a0 : Int) : Option (Int) := if a0 ≥ 0 then (some (IntKind.u64.wrap ((IntKind.u64.wrap (a0)) * 2))) else (some (IntKind.u64.wrap ((IntKind.u64.wrap ((IntKind.u64.wrap (wrap64 (-(wrap64 (a0 + 1))))) * 2)) + 1)))
set_option maxHeartbeats 8000000 in
set_option maxRecDepth 100000 in
theorem vellumref04_zigzag.calls (a0 : Int) (r : Int) (w : World) (h : vellumref04_zigzag.f a0 = some r) :
    Calls Tryd.prog 160 #[.int .i64 a0] w fun e w' => e = .returned (.int .u64 r) ∧ Drawn0 w w' := by
  have H : (if a0 ≥ 0 then (some (IntKind.u64.wrap ((IntKind.u64.wrap (a0)) * 2))) else (some (IntKind.u64.wrap ((IntKind.u64.wrap ((IntKind.u64.wrap (wrap64 (-(wrap64 (a0 + 1))))) * 2)) + 1)))) = some r := h
  clear h
  by_cases c2 : a0 ≥ 0
  · rw [if_pos c2] at H
    have c2b0 : decide (0 ≤ a0) = true := decide_eq_true c2
    clear c2
    obtain rfl := Option.some.inj H
    go_enter Tryd.func160, Tryd.ntmps160
    go_wp2
    go_ret
    exact ⟨eb, by repeat (first | exact Drawn0.refl _ | apply Drawn0.step)⟩
  · rw [if_neg c2] at H
    have c2b0 : decide (0 ≤ a0) = false := decide_eq_false c2
    clear c2
    obtain rfl := Option.some.inj H
    go_enter Tryd.func160, Tryd.ntmps160
    go_wp2
    go_ret
    exact ⟨eb, by repeat (first | exact Drawn0.refl _ | apply Drawn0.step)⟩
end Go.Proofs.YtpiifdbicibelaaDoor.PA
end
section
namespace Go.Proofs.YtpiifdbicibelaaDoor.Pure
open Go.RowKit Go.Proofs Go.Proofs.YtpiifdbicibelaaDoorW.PrintWords Go.Proofs.YtpiifdbicibelaaDoorW.PrintLast Go.Proofs.YtpiifdbicibelaaDoorW.PrintMore Go.Proofs.YtpiifdbicibelaaDoor.PA Go.Proofs.YtpiifdbicibelaaDoor.OpenK
set_option linter.unusedVariables false
set_option linter.unusedSimpArgs false
theorem rd105_eq {xs : List S105} {i : Nat} (h : i < xs.length) : rd_T105 xs (i : Int) = xs[i] := by
  have := rd105_get h
  rw [List.getElem?_eq_getElem h] at this
  exact (Option.some.inj this).symm
theorem rd115_eq {xs : List S115} {i : Nat} (h : i < xs.length) : rd_T115 xs (i : Int) = xs[i] := by
  have := rd115_get h
  rw [List.getElem?_eq_getElem h] at this
  exact (Option.some.inj this).symm
theorem rd139_eq {xs : List S139} {i : Nat} (h : i < xs.length) : rd_T139 xs (i : Int) = xs[i] := by
  have := rd139_get h
  rw [List.getElem?_eq_getElem h] at this
  exact (Option.some.inj this).symm
open Classical in
theorem cols_all (n : Nat) (l : List Int) : decide (∀ j, 0 ≤ j → ∀ h : j < l.length, (0 ≤ l[j] ∧ l[j] < n) ∧ l[j] ∉ l.take j) = (l.all (fun x => decide (0 ≤ x) && decide (x < n)) && decide l.Nodup) := by
  rw [Bool.eq_iff_iff, decide_eq_true_eq, Bool.and_eq_true, List.all_eq_true, decide_eq_true_eq]
  constructor
  · intro g
    refine ⟨fun x hx => ?_, ?_⟩
    · obtain ⟨j, hj, rfl⟩ := List.getElem_of_mem hx
      have := (g j (Nat.zero_le _) hj).1
      simp; omega
    · rw [List.nodup_iff_pairwise_ne, List.pairwise_iff_getElem]
      intro i j hi hj hij e
      exact (g j (Nat.zero_le _) hj).2 (by rw [← e]; exact List.mem_take_iff_getElem.2 ⟨i, by omega, rfl⟩)
  · rintro ⟨g1, g2⟩ j _ hj
    have h1 := g1 l[j] (List.getElem_mem hj)
    simp at h1
    refine ⟨h1, fun hm => ?_⟩
    obtain ⟨i, hi, e⟩ := List.mem_take_iff_getElem.1 hm
    rw [List.nodup_iff_pairwise_ne, List.pairwise_iff_getElem] at g2
    exact g2 i j (by omega) hj (by omega) e
theorem some_ev (a : ByteArray) (c : List S105) (d : List Int) (e : List S115) (f : List S139) (l : List Int) (hl : l.length < 9223372036854775807) : Ev (fun k => vellumref03_some.f k a c d e f l) (colsOk c.length l) := by
  classical
  have inner : ∀ (i : Nat) (hlt : i < l.length) (b : Bool), Ev (fun k => vellumref03_some.l0 k l ((i + 1 : Nat) : Int) a c d e f) b → ∀ (m j : Nat), j + m = i →
      Ev (fun k => vellumref03_some.l1 k l (i : Int) (j : Int) a c d e f) (if l[i] ∈ (l.take i).drop j then false else b) := by
    intro i hlt b hb m
    induction m with
    | zero =>
      intro j hj
      obtain rfl : j = i := by omega
      rw [List.drop_of_length_le (by simp; omega), if_neg (by simp)]
      refine Ev.step (g := fun k => vellumref03_some.l0 k l ((j + 1 : Nat) : Int) a c d e f) (fun k => ?_) hb
      simp only [vellumref03_some.l1]
      rw [if_neg (by omega), wrap64_id (by omega) (by omega)]
      rfl
    | succ m ih =>
      intro j hj
      have hjl : j < l.length := by omega
      have hd : (l.take i).drop j = l[j] :: (l.take i).drop (j + 1) := by
        rw [List.drop_eq_getElem_cons (by simp; omega)]
        simp
      refine Ev.step (g := fun k => if l[j] = l[i] then some false else vellumref03_some.l1 k l (i : Int) ((j + 1 : Nat) : Int) a c d e f) (fun k => ?_) ?_
      · simp only [vellumref03_some.l1]
        rw [if_pos (by omega), if_pos (by omega), if_pos (by omega), if_pos (by omega), if_pos (by omega), rd_getI l j hjl, rd_getI l i hlt, wrap64_id (by omega) (by omega)]
        rfl
      · rw [hd]
        by_cases h : l[j] = l[i]
        · refine Ev.pos h ?_
          rw [if_pos (by rw [h]; simp)]
          exact Ev.pure
        · refine Ev.neg h ?_
          have := ih (j + 1) (by omega)
          have e2 : (l[i] ∈ l[j] :: (l.take i).drop (j + 1)) ↔ l[i] ∈ (l.take i).drop (j + 1) := by
            rw [List.mem_cons]; exact ⟨fun g => g.resolve_left (fun e => h e.symm), .inr⟩
          simp only [e2]; exact this
  have hloop : ∀ (m i : Nat), i + m = l.length → Ev (fun k => vellumref03_some.l0 k l (i : Int) a c d e f)
      (decide (∀ j, i ≤ j → ∀ h : j < l.length, (0 ≤ l[j] ∧ l[j] < c.length) ∧ l[j] ∉ l.take j)) := by
    intro m
    induction m with
    | zero =>
      intro i hi
      refine Ev.from_ 1 fun k => ?_
      simp only [vellumref03_some.l0]
      rw [if_neg (by omega)]
      congr 1
      exact (decide_eq_true (fun j h1 h2 => by omega)).symm
    | succ m ih =>
      intro i hi
      have hlt : i < l.length := by omega
      have hj2 : ∀ b : Bool, Ev (fun k => vellumref03_some.j2 k l (i : Int) b a c d e f) (if b = true then false else if l[i] ∈ l.take i then false else decide (∀ j, i + 1 ≤ j → ∀ h : j < l.length, (0 ≤ l[j] ∧ l[j] < c.length) ∧ l[j] ∉ l.take j)) := by
        intro b
        cases b
        · refine Ev.step (g := fun k => vellumref03_some.l1 k l (i : Int) ((0 : Nat) : Int) a c d e f) (fun k => ?_) ?_
          · simp only [vellumref03_some.j2]; rw [if_neg (by decide)]; rfl
          · have := inner i hlt _ (ih (i + 1) (by omega)) i 0 (by omega)
            simpa using this
        · refine Ev.from_ 1 fun k => ?_
          simp [vellumref03_some.j2]
      refine Ev.step (g := fun k => if l[i] < 0 then vellumref03_some.j2 k l (i : Int) true a c d e f else vellumref03_some.j2 k l (i : Int) (decide (l[i] ≥ (c.length : Int))) a c d e f) (fun k => ?_) ?_
      · simp only [vellumref03_some.l0]
        rw [if_pos (by omega), if_pos (by omega), rd_getI l i hlt]
      · by_cases h1 : l[i] < 0
        · refine Ev.pos h1 ?_
          rw [decide_eq_false (fun g => by have := (g i (Nat.le_refl _) hlt).1.1; omega)]
          simpa using hj2 true
        refine Ev.neg h1 ?_
        have hh := hj2 (decide (l[i] ≥ (c.length : Int)))
        by_cases h2 : l[i] ≥ (c.length : Int)
        · rw [decide_eq_false (p := ∀ j, i ≤ j → ∀ h : j < l.length, (0 ≤ l[j] ∧ l[j] < c.length) ∧ l[j] ∉ l.take j) (fun g => by have := (g i (Nat.le_refl _) hlt).1.2; omega)]
          rw [decide_eq_true h2] at hh ⊢
          simpa using hh
        rw [decide_eq_false h2] at hh ⊢
        by_cases h3 : l[i] ∈ l.take i
        · rw [decide_eq_false (p := ∀ j, i ≤ j → ∀ h : j < l.length, (0 ≤ l[j] ∧ l[j] < c.length) ∧ l[j] ∉ l.take j) (fun g => (g i (Nat.le_refl _) hlt).2 h3)]
          rw [if_neg (by decide), if_pos h3] at hh
          exact hh
        · rw [if_neg (by decide), if_neg h3] at hh
          have e2 : decide (∀ j, i + 1 ≤ j → ∀ h : j < l.length, (0 ≤ l[j] ∧ l[j] < c.length) ∧ l[j] ∉ l.take j) = decide (∀ j, i ≤ j → ∀ h : j < l.length, (0 ≤ l[j] ∧ l[j] < c.length) ∧ l[j] ∉ l.take j) := by
            rw [decide_eq_decide]
            constructor
            · intro g j h4 h5
              rcases Nat.lt_or_ge i j with h6 | h6
              · exact g j h6 h5
              · obtain rfl : j = i := by omega
                exact ⟨⟨by omega, by omega⟩, h3⟩
            · exact fun g j h4 h5 => g j (by omega) h5
          rw [← e2]; exact hh
  have hj : ∀ b : Bool, Ev (fun k => vellumref03_some.j0 k l b a c d e f) (!b && (l.all (fun x => decide (0 ≤ x) && decide (x < c.length)) && decide l.Nodup)) := by
    intro b
    cases b
    · refine Ev.step (g := fun k => vellumref03_some.l0 k l ((0 : Nat) : Int) a c d e f) (fun k => ?_) ?_
      · simp only [vellumref03_some.j0]; rw [if_neg (by decide)]; rfl
      · have := hloop l.length 0 (by omega)
        rw [cols_all] at this
        simpa using this
    · refine Ev.from_ 1 fun k => ?_
      simp [vellumref03_some.j0]
  simp only [vellumref03_some.f]
  unfold colsOk
  by_cases h1 : (l.length : Int) < 1
  · refine Ev.pos h1 ?_
    have : decide (1 ≤ l.length) = false := decide_eq_false (by omega)
    simpa [this] using hj true
  · refine Ev.neg h1 ?_
    have e1 : decide (1 ≤ l.length) = true := decide_eq_true (by omega)
    by_cases h2 : (l.length : Int) > 64
    · have e2 : decide (l.length ≤ 64) = false := decide_eq_false (by omega)
      rw [decide_eq_true h2]
      simpa [e2] using hj true
    · have e2 : decide (l.length ≤ 64) = true := decide_eq_true (by omega)
      rw [decide_eq_false h2]
      simpa [e1, e2] using hj false
theorem columns_ev (a : ByteArray) (c : List S105) (d : List Int) (e : List S115) (f : List S139) (hl : c.length < 9223372036854775807) (hw : ∀ x ∈ c, wfC x) : Ev (fun k => vellumref03_columns.f k a c d e f) (colErrs [] c) := by
  have inner : ∀ (i : Nat) (hlt : i < c.length) (b : Int), Ev (fun k => vellumref03_columns.l0 k ((i + 1 : Nat) : Int) a c d e f) b → ∀ (m j : Nat), j + m = i →
      Ev (fun k => vellumref03_columns.l1 k (i : Int) (j : Int) a c d e f c[i].f0 c[i].f1 c[i].f2 c[i].f3.f0 c[i].f3.f1 c[i].f3.f2 c[i].f3.f3)
        (if ((c.take i).drop j).any (fun x => x.f0.toList == c[i].f0.toList) = true then 31 else if colBad c[i] = true then 32 else b) := by
    intro i hlt b hb m
    have hwi := hw c[i] (List.getElem_mem hlt)
    induction m with
    | zero =>
      intro j hj
      obtain rfl : j = i := by omega
      rw [List.drop_of_length_le (by simp; omega), if_neg (by simp)]
      refine Ev.step (g := fun k => if c[j].f1 < 1 then (some 32) else (if c[j].f1 > 5 then (some 32) else ((vellumref01_Check.f k c[j].f3.f0 c[j].f3.f1 c[j].f3.f2 c[j].f3.f3).bind fun t633 => (if t633 = 0 then (if c[j].f3.f0 = c[j].f1 then (vellumref03_columns.l0 k ((j + 1 : Nat) : Int) a c d e f) else (if c[j].f3.f0 = 0 then (vellumref03_columns.l0 k ((j + 1 : Nat) : Int) a c d e f) else (some 32))) else (some 32))))) (fun k => ?_) ?_
      · simp only [vellumref03_columns.l1]
        rw [if_neg (by omega), wrap64_id (by omega) (by omega)]
        rfl
      · unfold colBad
        by_cases h1 : c[j].f1 < 1
        · refine Ev.pos h1 ?_
          rw [if_pos (by simp [h1])]; exact Ev.pure
        refine Ev.neg h1 ?_
        by_cases h2 : c[j].f1 > 5
        · refine Ev.pos h2 ?_
          rw [if_pos (by simp; omega)]; exact Ev.pure
        refine Ev.neg h2 (Ev.bind (Ev.from_ 6 fun k => check_ref k _ _ _ _ hwi.2) ?_)
        generalize chk c[j].f3.f0 c[j].f3.f1 c[j].f3.f2 c[j].f3.f3 = r
        have d1 : decide (c[j].f1 < 1) = false := decide_eq_false h1
        have d2 : decide (5 < c[j].f1) = false := decide_eq_false h2
        rw [d1, d2]
        by_cases h3 : r = 0
        · refine Ev.pos h3 ?_
          subst h3
          by_cases h4 : c[j].f3.f0 = c[j].f1
          · refine Ev.pos h4 ?_
            rw [if_neg (by simp [h4])]; exact hb
          · refine Ev.neg h4 ?_
            by_cases h5 : c[j].f3.f0 = 0
            · refine Ev.pos h5 ?_
              rw [if_neg (by simp [h5])]; exact hb
            · refine Ev.neg h5 ?_
              rw [if_pos (by simp [h4, h5])]; exact Ev.pure
        · refine Ev.neg h3 ?_
          rw [if_pos (by simp [h3])]; exact Ev.pure
    | succ m ih =>
      intro j hj
      have hjl : j < c.length := by omega
      have hd : (c.take i).drop j = c[j] :: (c.take i).drop (j + 1) := by
        rw [List.drop_eq_getElem_cons (by simp; omega)]
        simp
      refine Ev.step (g := fun k => if c[j].f0.toList = c[i].f0.toList then some 31 else vellumref03_columns.l1 k (i : Int) ((j + 1 : Nat) : Int) a c d e f c[i].f0 c[i].f1 c[i].f2 c[i].f3.f0 c[i].f3.f1 c[i].f3.f2 c[i].f3.f3) (fun k => ?_) ?_
      · simp only [vellumref03_columns.l1]
        rw [if_pos (by omega), if_pos (by omega), if_pos (by omega), rd105_eq hjl, wrap64_id (by omega) (by omega)]
        rfl
      · rw [hd]
        by_cases h : c[j].f0.toList = c[i].f0.toList
        · refine Ev.pos h ?_
          rw [if_pos (by simp [h])]
          exact Ev.pure
        · refine Ev.neg h ?_
          have := ih (j + 1) (by omega)
          have e2 : (c[j] :: (c.take i).drop (j + 1)).any (fun x => x.f0.toList == c[i].f0.toList) = ((c.take i).drop (j + 1)).any (fun x => x.f0.toList == c[i].f0.toList) := by
            rw [List.any_cons]; simp [h]
          rw [e2]; exact this
  have hloop : ∀ (m i : Nat), i + m = c.length → Ev (fun k => vellumref03_columns.l0 k (i : Int) a c d e f) (colErrs (c.take i) (c.drop i)) := by
    intro m
    induction m with
    | zero =>
      intro i hi
      rw [List.drop_of_length_le (by omega)]
      refine Ev.from_ 1 fun k => ?_
      simp only [vellumref03_columns.l0]
      rw [if_neg (by omega)]; rfl
    | succ m ih =>
      intro i hi
      have hlt : i < c.length := by omega
      have hwi := hw c[i] (List.getElem_mem hlt)
      rw [List.drop_eq_getElem_cons hlt]
      simp only [colErrs]
      refine Ev.step (g := fun k => (vellumref03_Name.f k c[i].f0).bind fun t631 => (if t631 = true then (vellumref03_columns.l1 k (i : Int) ((0 : Nat) : Int) a c d e f c[i].f0 c[i].f1 c[i].f2 c[i].f3.f0 c[i].f3.f1 c[i].f3.f2 c[i].f3.f3) else (some 30))) (fun k => ?_) (Ev.bind (name_ref _ hwi.1) ?_)
      · simp only [vellumref03_columns.l0]
        rw [if_pos (by omega), if_pos (by omega), rd105_eq hlt]
        rfl
      cases hn : nameOk c[i].f0 with
      | false => exact Ev.neg (by decide) (by rw [if_pos rfl]; exact Ev.pure)
      | true =>
        rw [if_neg (by decide)]
        refine Ev.pos rfl ?_
        have hii := ih (i + 1) (by omega)
        have ht : c.take (i + 1) = c.take i ++ [c[i]] := by rw [List.take_succ_eq_append_getElem hlt]
        rw [ht] at hii
        have := inner i hlt _ hii i 0 (by omega)
        simpa using this
  have := hloop c.length 0 (by omega)
  simpa [vellumref03_columns.f] using this
theorem indexes_ev (a : ByteArray) (c : List S105) (d : List Int) (e : List S115) (f : List S139) (hl : e.length < 9223372036854775807) (hw : ∀ x ∈ e, wfX x) : Ev (fun k => vellumref03_indexes.f k a c d e f) (idxErrs c.length [] e) := by
  have inner : ∀ (i : Nat) (hlt : i < e.length) (b : Int), Ev (fun k => vellumref03_indexes.l0 k ((i + 1 : Nat) : Int) a c d e f) b → ∀ (m j : Nat), j + m = i →
      Ev (fun k => vellumref03_indexes.l1 k (i : Int) (j : Int) a c d e f e[i].f0 e[i].f1 e[i].f2)
        (if ((e.take i).drop j).any (fun x => x.f0.toList == e[i].f0.toList) = true then 31 else if colsOk c.length e[i].f1 = false then 33 else b) := by
    intro i hlt b hb m
    have hwi := hw e[i] (List.getElem_mem hlt)
    induction m with
    | zero =>
      intro j hj
      obtain rfl : j = i := by omega
      rw [List.drop_of_length_le (by simp; omega), if_neg (by simp)]
      refine Ev.step (g := fun k => (vellumref03_some.f k a c d e f e[j].f1).bind fun t644 => (if t644 = true then (vellumref03_indexes.l0 k ((j + 1 : Nat) : Int) a c d e f) else (some 33))) (fun k => ?_) (Ev.bind (some_ev a c d e f e[j].f1 hwi.2) ?_)
      · simp only [vellumref03_indexes.l1]
        rw [if_neg (by omega), wrap64_id (by omega) (by omega)]
        rfl
      · cases hc : colsOk c.length e[j].f1 with
        | false => exact Ev.neg (by decide) (by rw [if_pos rfl]; exact Ev.pure)
        | true => exact Ev.pos rfl (by rw [if_neg (by decide)]; exact hb)
    | succ m ih =>
      intro j hj
      have hjl : j < e.length := by omega
      have hd : (e.take i).drop j = e[j] :: (e.take i).drop (j + 1) := by
        rw [List.drop_eq_getElem_cons (by simp; omega)]
        simp
      refine Ev.step (g := fun k => if e[j].f0.toList = e[i].f0.toList then some 31 else vellumref03_indexes.l1 k (i : Int) ((j + 1 : Nat) : Int) a c d e f e[i].f0 e[i].f1 e[i].f2) (fun k => ?_) ?_
      · simp only [vellumref03_indexes.l1]
        rw [if_pos (by omega), if_pos (by omega), if_pos (by omega), rd115_eq hjl, wrap64_id (by omega) (by omega)]
        rfl
      · rw [hd]
        by_cases h : e[j].f0.toList = e[i].f0.toList
        · refine Ev.pos h ?_
          rw [if_pos (by simp [h])]
          exact Ev.pure
        · refine Ev.neg h ?_
          have := ih (j + 1) (by omega)
          have e2 : (e[j] :: (e.take i).drop (j + 1)).any (fun x => x.f0.toList == e[i].f0.toList) = ((e.take i).drop (j + 1)).any (fun x => x.f0.toList == e[i].f0.toList) := by
            rw [List.any_cons]; simp [h]
          rw [e2]; exact this
  have hloop : ∀ (m i : Nat), i + m = e.length → Ev (fun k => vellumref03_indexes.l0 k (i : Int) a c d e f) (idxErrs c.length (e.take i) (e.drop i)) := by
    intro m
    induction m with
    | zero =>
      intro i hi
      rw [List.drop_of_length_le (by omega)]
      refine Ev.from_ 1 fun k => ?_
      simp only [vellumref03_indexes.l0]
      rw [if_neg (by omega)]; rfl
    | succ m ih =>
      intro i hi
      have hlt : i < e.length := by omega
      have hwi := hw e[i] (List.getElem_mem hlt)
      rw [List.drop_eq_getElem_cons hlt]
      simp only [idxErrs]
      refine Ev.step (g := fun k => (vellumref03_Name.f k e[i].f0).bind fun t642 => (if t642 = true then (vellumref03_indexes.l1 k (i : Int) ((0 : Nat) : Int) a c d e f e[i].f0 e[i].f1 e[i].f2) else (some 30))) (fun k => ?_) (Ev.bind (name_ref _ hwi.1) ?_)
      · simp only [vellumref03_indexes.l0]
        rw [if_pos (by omega), if_pos (by omega), rd115_eq hlt]
        rfl
      cases hn : nameOk e[i].f0 with
      | false => exact Ev.neg (by decide) (by rw [if_pos rfl]; exact Ev.pure)
      | true =>
        rw [if_neg (by decide)]
        refine Ev.pos rfl ?_
        have hii := ih (i + 1) (by omega)
        have ht : e.take (i + 1) = e.take i ++ [e[i]] := by rw [List.take_succ_eq_append_getElem hlt]
        rw [ht] at hii
        have := inner i hlt _ hii i 0 (by omega)
        simpa using this
  have := hloop e.length 0 (by omega)
  simpa [vellumref03_indexes.f] using this
theorem keyloop_ev (a : ByteArray) (c : List S105) (d : List Int) (e : List S115) (f : List S139) (hd : d.length < 9223372036854775807) (hk : colsOk c.length d = true) (b : Int) (hb : Ev (fun k => (vellumref03_indexes.f k a c d e f).bind fun t651 => (if t651 = 0 then (vellumref03_Check.l1 k 0 a c d e f) else (some t651))) b) :
    Ev (fun k => vellumref03_Check.l0 k 0 a c d e f) (if d.any (fun k => (rd_T105 c k).f2) = true then 33 else b) := by
  have hloop : ∀ (m i : Nat), i + m = d.length → Ev (fun k => vellumref03_Check.l0 k (i : Int) a c d e f) (if (d.drop i).any (fun k => (rd_T105 c k).f2) = true then 33 else b) := by
    intro m
    induction m with
    | zero =>
      intro i hi
      rw [List.drop_of_length_le (by omega), if_neg (by simp)]
      refine Ev.step (g := fun k => (vellumref03_indexes.f k a c d e f).bind fun t651 => (if t651 = 0 then (vellumref03_Check.l1 k 0 a c d e f) else (some t651))) (fun k => ?_) hb
      simp only [vellumref03_Check.l0]
      rw [if_neg (by omega)]
    | succ m ih =>
      intro i hi
      have hlt : i < d.length := by omega
      have hr := colsOk_mem hk (List.getElem_mem hlt)
      rw [List.drop_eq_getElem_cons hlt]
      refine Ev.step (g := fun k => if (rd_T105 c d[i]).f2 = true then some 33 else vellumref03_Check.l0 k ((i + 1 : Nat) : Int) a c d e f) (fun k => ?_) ?_
      · simp only [vellumref03_Check.l0]
        rw [if_pos (by omega), if_pos (by omega), rd_getI d i hlt, if_pos hr.1, if_pos hr.2, wrap64_id (by omega) (by omega)]
        rfl
      · cases h : (rd_T105 c d[i]).f2 with
        | true =>
          refine Ev.pos rfl ?_
          rw [if_pos (by rw [List.any_cons, h]; rfl)]
          exact Ev.pure
        | false =>
          refine Ev.neg (by decide) ?_
          have e2 : (d[i] :: d.drop (i + 1)).any (fun k => (rd_T105 c k).f2) = (d.drop (i + 1)).any (fun k => (rd_T105 c k).f2) := by rw [List.any_cons, h]; rfl
          rw [e2]
          exact ih (i + 1) (by omega)
  have := hloop d.length 0 (by omega)
  simpa using this
theorem refs_ev (a : ByteArray) (c : List S105) (d : List Int) (e : List S115) (f : List S139) (hl : f.length < 9223372036854775807) (hw : ∀ x ∈ f, wfR x) : Ev (fun k => vellumref03_Check.l1 k 0 a c d e f) (refErrs c.length f) := by
  have hloop : ∀ (m i : Nat), i + m = f.length → Ev (fun k => vellumref03_Check.l1 k (i : Int) a c d e f) (refErrs c.length (f.drop i)) := by
    intro m
    induction m with
    | zero =>
      intro i hi
      rw [List.drop_of_length_le (by omega)]
      refine Ev.from_ 1 fun k => ?_
      simp only [vellumref03_Check.l1]
      rw [if_neg (by omega)]; rfl
    | succ m ih =>
      intro i hi
      have hlt : i < f.length := by omega
      have hwi := hw f[i] (List.getElem_mem hlt)
      rw [List.drop_eq_getElem_cons hlt]
      simp only [refErrs]
      refine Ev.step (g := fun k => (vellumref03_Name.f k f[i].f1).bind fun t653 => (if t653 = true then ((vellumref03_some.f k a c d e f f[i].f0).bind fun t655 => (if t655 = true then (vellumref03_Check.l1 k ((i + 1 : Nat) : Int) a c d e f) else (some 33))) else (some 30))) (fun k => ?_) (Ev.bind (name_ref _ hwi.1) ?_)
      · simp only [vellumref03_Check.l1]
        rw [if_pos (by omega), if_pos (by omega), rd139_eq hlt, wrap64_id (by omega) (by omega)]
        rfl
      cases hn : nameOk f[i].f1 with
      | false => exact Ev.neg (by decide) (by rw [if_pos rfl]; exact Ev.pure)
      | true =>
        rw [if_neg (by decide)]
        refine Ev.pos rfl (Ev.bind (some_ev a c d e f f[i].f0 hwi.2) ?_)
        cases hc : colsOk c.length f[i].f0 with
        | false => exact Ev.neg (by decide) (by rw [if_pos rfl]; exact Ev.pure)
        | true => exact Ev.pos rfl (by rw [if_neg (by decide)]; exact ih (i + 1) (by omega))
  have := hloop f.length 0 (by omega)
  simpa using this
theorem tcheck_ev (a : ByteArray) (c : List S105) (d : List Int) (e : List S115) (f : List S139) (hw : WfT a c d e f) (hc : c.length < 9223372036854775807) (he : e.length < 9223372036854775807) (hf : f.length < 9223372036854775807) : Ev (fun k => vellumref03_Check.f k a c d e f) (checkT a c d e f) := by
  have hj : ∀ b : Bool, Ev (fun k => vellumref03_Check.j0 k b a c d e f) (if b = true then 2 else if colErrs [] c ≠ 0 then colErrs [] c else if colsOk c.length d = false then 33 else if d.any (fun k => (rd_T105 c k).f2) = true then 33 else if idxErrs c.length [] e ≠ 0 then idxErrs c.length [] e else refErrs c.length f) := by
    intro b
    cases b with
    | true =>
      refine Ev.from_ 1 fun k => ?_
      simp [vellumref03_Check.j0]
    | false =>
      refine Ev.step (g := fun k => (vellumref03_columns.f k a c d e f).bind fun t647 => (if t647 = 0 then ((vellumref03_some.f k a c d e f d).bind fun t648 => (if t648 = true then (vellumref03_Check.l0 k 0 a c d e f) else (some 33))) else (some t647))) (fun k => ?_) (Ev.bind (columns_ev a c d e f hc hw.cols) ?_)
      · simp only [vellumref03_Check.j0]; rw [if_neg (by decide)]
      rw [if_neg (by decide)]
      by_cases h1 : colErrs [] c = 0
      · rw [if_neg (by simp [h1])]
        refine Ev.pos h1 (Ev.bind (some_ev a c d e f d hw.key) ?_)
        cases hk : colsOk c.length d with
        | false => exact Ev.neg (by decide) (by rw [if_pos rfl]; exact Ev.pure)
        | true =>
          rw [if_neg (by decide)]
          refine Ev.pos rfl (keyloop_ev a c d e f hw.key hk _ (Ev.bind (indexes_ev a c d e f he hw.idx) ?_))
          by_cases h2 : idxErrs c.length [] e = 0
          · rw [if_neg (by simp [h2])]
            exact Ev.pos h2 (refs_ev a c d e f hf hw.refs)
          · rw [if_pos h2]
            exact Ev.neg h2 Ev.pure
      · rw [if_pos h1]
        exact Ev.neg h1 Ev.pure
  simp only [vellumref03_Check.f]
  unfold checkT
  refine Ev.bind (name_ref a hw.name) ?_
  cases hn : nameOk a with
  | false => exact Ev.neg (by decide) (by rw [if_pos rfl]; exact Ev.pure)
  | true =>
    rw [if_neg (by decide)]
    refine Ev.pos rfl ?_
    by_cases h1 : (c.length : Int) < 1
    · refine Ev.pos h1 ?_
      rw [if_pos (.inl (by omega))]
      simpa using hj true
    refine Ev.neg h1 ?_
    by_cases h2 : (c.length : Int) > 64
    · refine Ev.pos h2 ?_
      rw [if_pos (.inr (.inl (by omega)))]
      simpa using hj true
    refine Ev.neg h2 ?_
    by_cases h3 : (e.length : Int) > 16
    · refine Ev.pos h3 ?_
      rw [if_pos (.inr (.inr (.inl (by omega))))]
      simpa using hj true
    refine Ev.neg h3 ?_
    by_cases h4 : (f.length : Int) > 16
    · rw [decide_eq_true h4, if_pos (.inr (.inr (.inr (by omega))))]
      simpa using hj true
    · rw [decide_eq_false h4, if_neg (by omega)]
      have := hj false
      rwa [if_neg (by decide)] at this
theorem admits_ev (a : ByteArray) (c : List S105) (d : List Int) (e : List S115) (f : List S139) (row : List S50) (hw : WfT a c d e f) (hc : c.length < 9223372036854775807) (he : e.length < 9223372036854775807) (hf : f.length < 9223372036854775807) (hrow : row.length < 9223372036854775807) (hv : ∀ v ∈ row, v.f3.size ≤ 140737488351232) :
    Ev (fun k => vellumref03_Admits.f k a c d e f row) (admT a c d e f row) := by
  have hloop : row.length = c.length → ∀ (m i : Nat), i + m = row.length → Ev (fun k => vellumref03_Admits.l0 k row (i : Int) a c d e f) (admRow (c.drop i) (row.drop i)) := by
    intro hlen m
    induction m with
    | zero =>
      intro i hi
      rw [List.drop_of_length_le (l := c) (by omega)]
      refine Ev.from_ 1 fun k => ?_
      simp only [vellumref03_Admits.l0]
      rw [if_neg (by omega)]; simp [admRow]
    | succ m ih =>
      intro i hi
      have hlt : i < row.length := by omega
      have hltc : i < c.length := by omega
      have hic : (i : Int) < (c.length : Int) := by omega
      have hx : row[i]? = some row[i] := List.getElem?_eq_getElem hlt
      have hvi := hv row[i] (List.getElem_mem hlt)
      rw [List.drop_eq_getElem_cons hlt, List.drop_eq_getElem_cons hltc]
      simp only [admRow]
      have ih' := ih (i + 1) (by omega)
      refine Ev.step (g := fun k => (vellumref01_Check.f k row[i].f0 row[i].f1 row[i].f2 row[i].f3).bind fun t659 => (if t659 = 0 then (if row[i].f0 = 0 then (if (c[i].f2 = true) then (vellumref03_Admits.l0 k row ((i + 1 : Nat) : Int) a c d e f) else (some 35)) else (if row[i].f0 = c[i].f1 then (vellumref03_Admits.l0 k row ((i + 1 : Nat) : Int) a c d e f) else (some 32))) else (some t659))) (fun k => ?_) (Ev.bind (Ev.from_ 6 fun k => check_ref k _ _ _ _ hvi) ?_)
      · simp only [vellumref03_Admits.l0]
        rw [if_pos (by omega), if_pos (by omega), rd_get row i _ hx, rd105_eq hltc, if_pos hic, if_pos hic, wrap64_id (by omega) (by omega)]
        rfl
      · generalize chk row[i].f0 row[i].f1 row[i].f2 row[i].f3 = r
        by_cases h0 : r = 0
        · subst h0
          rw [if_neg (by simp)]
          refine Ev.pos rfl ?_
          by_cases h1 : row[i].f0 = 0
          · rw [if_pos h1]
            refine Ev.pos h1 ?_
            by_cases h2 : c[i].f2 = true
            · rw [if_pos h2]; exact Ev.pos h2 ih'
            · rw [if_neg h2]; exact Ev.neg h2 Ev.pure
          · rw [if_neg h1]
            refine Ev.neg h1 ?_
            by_cases h2 : row[i].f0 = c[i].f1
            · rw [if_pos h2]; exact Ev.pos h2 ih'
            · rw [if_neg h2]; exact Ev.neg h2 Ev.pure
        · rw [if_pos h0]
          exact Ev.neg h0 Ev.pure
  simp only [vellumref03_Admits.f]
  unfold admT
  refine Ev.bind (tcheck_ev a c d e f hw hc he hf) ?_
  by_cases h0 : checkT a c d e f = 0
  · rw [if_neg (by simp [h0])]
    refine Ev.pos h0 ?_
    by_cases h1 : row.length = c.length
    · rw [if_neg (by simp [h1])]
      refine Ev.pos (by omega) ?_
      have := hloop h1 row.length 0 (by omega)
      simpa using this
    · rw [if_pos h1]
      exact Ev.neg (by omega) Ev.pure
  · rw [if_pos h0]
    exact Ev.neg h0 Ev.pure
end Go.Proofs.YtpiifdbicibelaaDoor.Pure
end
