/- Part 3 of what the proof of CodeDecodes stands on: words for walks, printed functions with their contracts, plain laws. -/
import Derived.Test.YtpiifdbicibelaaDoorKCodeDecodes1
section
namespace Go.Proofs.YtpiifdbicibelaaDoor.PA
open Go.RowKit Go.Proofs.YtpiifdbicibelaaDoorW.PrintWords Go.Proofs.YtpiifdbicibelaaDoorW.PrintLast Go.Proofs.YtpiifdbicibelaaDoorW.PrintMore
attribute [local go_sem] max2_int min2_int max_two min_two max_three min_three max_four min_four   -- for this text's walks alone
set_option linter.unusedVariables false
set_option linter.unusedSimpArgs false
set_option maxHeartbeats 8000000 in
set_option maxRecDepth 100000 in
theorem vellumref02_code.calls (k : Nat) (a0_0 : Int) (a0_1 : Int) (a0_2 : Nat) (a0_3 : ByteArray) (r : List Int) (w : World) (h : vellumref02_code.f k a0_0 a0_1 a0_2 a0_3 = some r) :
  Calls Tryd.prog 70 #[.agg #[.int .i64 a0_0, .int .i64 a0_1, .float .f64 a0_2, .string a0_3]] w fun e w' => ∃ v0_ : Value, e = .returned (v0_) ∧ Kd.R (Kd.int .u8) 5 w' w.heap.size (fun _ => True) v0_ r ∧ Below w.heap.size w w' := by
 have hu50 := Tryd.underlying50
 have HB := Aside0.mk (Below.refl w.heap.size w)
 have H : ((some (([(wrap64 (a0_0 + 1)) % 256] : List Int) : List Int)).bind fun y244 => (if a0_0 = 1 then (if y244.length < 140737488355328 then (some (y244 ++ [(a0_1) % 256])) else (none)) else (if a0_0 = 2 then ((vellumref02_whole.f k a0_1).bind fun t250 => (if y244.length + t250.length < 140737488355328 then (some (y244 ++ t250)) else (none))) else (if a0_0 = 3 then ((vellumref02_real.f k a0_2).bind fun t256 => (if y244.length + t256.length < 140737488355328 then (some (y244 ++ t256)) else (none))) else (if a0_0 = 4 then ((vellumref02_ended.f k a0_3).bind fun t262 => (if y244.length + t262.length < 140737488355328 then (some (y244 ++ t262)) else (none))) else (if a0_0 = 5 then ((vellumref02_ended.f k a0_3).bind fun t268 => (if y244.length + t268.length < 140737488355328 then (some (y244 ++ t268)) else (none))) else (some y244))))))) = some r := h
 clear h
 obtain ⟨y244, hy244⟩ : ∃ y_ : List Int, y_ = (([(wrap64 (a0_0 + 1)) % 256] : List Int)) := ⟨_, rfl⟩
 replace H : (if a0_0 = 1 then (if y244.length < 140737488355328 then (some (y244 ++ [(a0_1) % 256])) else (none)) else (if a0_0 = 2 then ((vellumref02_whole.f k a0_1).bind fun t250 => (if y244.length + t250.length < 140737488355328 then (some (y244 ++ t250)) else (none))) else (if a0_0 = 3 then ((vellumref02_real.f k a0_2).bind fun t256 => (if y244.length + t256.length < 140737488355328 then (some (y244 ++ t256)) else (none))) else (if a0_0 = 4 then ((vellumref02_ended.f k a0_3).bind fun t262 => (if y244.length + t262.length < 140737488355328 then (some (y244 ++ t262)) else (none))) else (if a0_0 = 5 then ((vellumref02_ended.f k a0_3).bind fun t268 => (if y244.length + t268.length < 140737488355328 then (some (y244 ++ t268)) else (none))) else (some y244)))))) = some r := by first | (rw [hy244]; with_reducible exact H) | (have H2_ := (Option.bind_some _ _).symm.trans H; rw [hy244]; with_reducible exact H2_) | (have H2_ := (Option.bind_some _ _).symm.trans H; with_reducible exact H2_) | with_reducible exact H | (rw [hy244]; exact H) | exact H
 have Ny244 := Aside0.mk hy244
 clear hy244
 by_cases c2 : a0_0 = 1
 ·rw [if_pos c2] at H
  have c2b0 : (a0_0 == 1) = true := beq_iff_eq.mpr c2
  have c2b1 : (a0_0 != 1) = false := bne_eq_false_iff_eq.mpr c2
  clear c2
  by_cases c3 : y244.length < 140737488355328
  ·rw [if_pos c3] at H
   have LMc3 := Aside0.mk c3
   clear c3
   obtain ⟨y247, hy247⟩ : ∃ y_ : List Int, y_ = (y244 ++ [(a0_1) % 256]) := ⟨_, rfl⟩
   replace H : (some y247) = some r := by first | (rw [hy247]; with_reducible exact H) | (have H2_ := (Option.bind_some _ _).symm.trans H; rw [hy247]; with_reducible exact H2_) | (have H2_ := (Option.bind_some _ _).symm.trans H; with_reducible exact H2_) | with_reducible exact H | (rw [hy247]; exact H) | exact H
   have Ny247 := Aside0.mk hy247
   clear hy247
   obtain rfl := Option.some.inj H
   go_enter Tryd.func70, Tryd.ntmps70
   go_wp2_with (first | ((with_reducible refine gate_dst (N := 1) rfl ?_); refine box_event ?hg (N := 1) ?hd (cs := #[.int .i64 a0_0, .int .i64 a0_1, .float .f64 a0_2, .string a0_3]) (t := 50) ?hr ?_; (case hd => rfl); (case hg => rfl); (case hr => first | (go_simp; done) | (go_simp; rfl)); intro gb243 hg w4 hbox hb; have n0_ := Aside0.mk (below_step (by repeat (first | (with_reducible first | exact HB.out | apply below_alloc | apply pw_below_drewN | apply below_drew1) | exact HB.out)) hb); have n1_ := Aside0.mk (hbox); have n2_ := Aside0.mk ((by rw [hg]; exact (below_size (by repeat (first | (with_reducible first | exact HB.out | apply below_alloc | apply pw_below_drewN | apply below_drew1) | exact HB.out))) : w.heap.size ≤ gb243)); have n3_ := n2_; clear HB; have HB := n0_; have BK243 := n1_; have GW243 := n2_; have GE243 := n3_; clear n0_ n1_ n2_ n3_; clear hb hbox hg; have hcz5_0 : w4.cell? ⟨gb243, 0, none⟩ = some (.int .i64 a0_0) := (blk_cell BK243.out 0).trans rfl; have hcz5_1 : w4.cell? ⟨gb243, 1, none⟩ = some (.int .i64 a0_1) := (blk_cell BK243.out 1).trans rfl; have hcz5_2 : w4.cell? ⟨gb243, 2, none⟩ = some (.float .f64 a0_2) := (blk_cell BK243.out 2).trans rfl; have hcz5_3 : w4.cell? ⟨gb243, 3, none⟩ = some (.string a0_3) := (blk_cell BK243.out 3).trans rfl; have hfz5_0 := blk_frozen BK243.out 0; have hfz5_1 := blk_frozen BK243.out 1; have hfz5_2 := blk_frozen BK243.out 2; have hfz5_3 := blk_frozen BK243.out 3) | ((with_reducible refine gate_dst (N := 8) rfl ?_); refine Kd.R_lit (Kd.int .u8) _ 5 ?hg (N := 8) ?hd (xs := ([(wrap64 (a0_0 + 1)) % 256] : List Int)) (inner := [.int .u8 ((wrap64 (a0_0 + 1)) % 256)]) (ok := fun _ => True) (okp := fun _ => True) ?hr ?hp (fun _ hk => hk) trivial (Below.refl _ _) (Nat.le_refl _) (by simp) ?_; (case hd => rfl); (case hg => rfl); (case hr => first | (go_simp; done) | (go_simp; rfl)); (case hp => exact (Reps.one (show Kd.M (Kd.int .u8) _ _ _ ((wrap64 (a0_0 + 1)) % 256) [.int .u8 ((wrap64 (a0_0 + 1)) % 256)] from rfl) (Reps.none _ _))); intro v245 w6 ho7 hb hg_ hnew_; clear hg_ hnew_; (first | rw [← Ny244.out] at ho7 | (simp only [Int.reduceToNat] at ho7; rw [← Ny244.out] at ho7)); have n0_ := Aside0.mk (Kd.R_lower ho7 (below_size (by repeat (first | (with_reducible first | exact HB.out | apply below_alloc | apply pw_below_drewN | apply below_drew1 | refine below_set ?_ GE243.out) | exact HB.out)))); have n1_ := Aside0.mk (blk_below (g := gb243) (o := .cells #[.int .i64 a0_0, .int .i64 a0_1, .float .f64 a0_2, .string a0_3] 50 (0, 0)) (by (with_reducible repeat (first | refine blk_drewN ?_ _ | refine blk_drew ?_ | refine blk_alloc ?_ _)); exact BK243.out) hb); have n2_ := Aside0.mk (below_step (by repeat (first | (with_reducible first | exact HB.out | apply below_alloc | apply pw_below_drewN | apply below_drew1 | refine below_set ?_ GE243.out) | exact HB.out)) hb); clear BK243; clear HB; have HO246 := n0_; have BK243 := n1_; have HB := n2_; clear n0_ n1_ n2_; clear hb ho7; have hcz8_0 : w6.cell? ⟨gb243, 0, none⟩ = some (.int .i64 a0_0) := (blk_cell BK243.out 0).trans rfl; have hcz8_1 : w6.cell? ⟨gb243, 1, none⟩ = some (.int .i64 a0_1) := (blk_cell BK243.out 1).trans rfl; have hcz8_2 : w6.cell? ⟨gb243, 2, none⟩ = some (.float .f64 a0_2) := (blk_cell BK243.out 2).trans rfl; have hcz8_3 : w6.cell? ⟨gb243, 3, none⟩ = some (.string a0_3) := (blk_cell BK243.out 3).trans rfl; have hfz8_0 := blk_frozen BK243.out 0; have hfz8_1 := blk_frozen BK243.out 1; have hfz8_2 := blk_frozen BK243.out 2; have hfz8_3 := blk_frozen BK243.out 3) | ((with_reducible refine gate_builtin (b := .append) (xs := #[.tmp 13, .tmp 17]) rfl ?_); at_builtin; refine Kd.R_append (Kd.int .u8) (w0 := w) w.heap.size rfl (.tmp 13) (.tmp 17) 80 5 (.int .u8 0) 1 rfl Tryd.underlying80 info5 rfl (by decide) (by omega) v245 y244 ((a0_1) % 256) [.int .u8 ((a0_1) % 256)] (fun _ => True) (fun _ => False) rfl rfl ?aP (fun _ hk => hk.elim) ?aF ?aO ?aB ?aS ?aL ?_; (case aP => exact rfl); (case aB => exact (by repeat (first | (with_reducible first | exact HB.out | apply below_alloc | apply pw_below_drewN | apply below_drew1 | refine below_set ?_ GE243.out) | exact HB.out))); (case aF => exact (fun _ _ => trivial)); (case aO => exact (by (with_reducible repeat (first | apply Kd.R_alloc | apply Kd.R_drewN | apply Kd.R_drew)); exact HO246.out)); (case aS => exact (below_size (by repeat (first | (with_reducible first | exact HB.out | apply below_alloc | apply pw_below_drewN | apply below_drew1 | refine below_set ?_ GE243.out) | exact HB.out)))); (case aL => have := LMc3.out; omega); intro v248 w9 ho hb hg hat; rw [← Ny247.out] at ho; have n0_ := Aside0.mk (blk_grown (g := gb243) (o := .cells #[.int .i64 a0_0, .int .i64 a0_1, .float .f64 a0_2, .string a0_3] 50 (0, 0)) (by (with_reducible repeat (first | refine blk_drewN ?_ _ | refine blk_drew ?_ | refine blk_alloc ?_ _)); exact BK243.out) hg (Kd.R_ne HO246.out BK243.out (by decide))); have n1_ := Aside0.mk (hb); have n2_ := Aside0.mk (ho); clear BK243; clear HB; clear HO246; have BK243 := n0_; have HB := n1_; have HO249 := n2_; clear n0_ n1_ n2_; clear ho hb hg hat))
   go_ret
   exact ⟨_, by first | rfl | (simp [errW_none, errW_some] <;> rfl) | (simp [*, errW_none, errW_some] <;> rfl), by (with_reducible repeat (first | apply Kd.R_alloc | apply Kd.R_drewN | apply Kd.R_drew)); exact HO249.out, by repeat (first | (with_reducible first | exact HB.out | apply below_alloc | apply pw_below_drewN | apply below_drew1 | refine below_set ?_ GE243.out) | exact HB.out)⟩
  ·rw [if_neg c3] at H
   exact absurd H (by simp)
 ·rw [if_neg c2] at H
  have c2b0 : (a0_0 == 1) = false := beq_eq_false_iff_ne.mpr c2
  have c2b1 : (a0_0 != 1) = true := bne_iff_ne.mpr c2
  by_cases c10 : a0_0 = 2
  ·rw [if_pos c10] at H
   have c10b0 : (a0_0 == 2) = true := beq_iff_eq.mpr c10
   have c10b1 : (a0_0 != 2) = false := bne_eq_false_iff_eq.mpr c10
   clear c10
   replace H := Option.bind_eq_some_iff.mp H
   obtain ⟨t250, A110, H⟩ := H
   replace H : (if y244.length + t250.length < 140737488355328 then (some (y244 ++ t250)) else (none)) = some r := H
   have A11 := Aside0.mk A110
   clear A110
   by_cases c12 : y244.length + t250.length < 140737488355328
   ·rw [if_pos c12] at H
    have LMc12 := Aside0.mk c12
    clear c12
    obtain ⟨y253, hy253⟩ : ∃ y_ : List Int, y_ = (y244 ++ t250) := ⟨_, rfl⟩
    replace H : (some y253) = some r := by first | (rw [hy253]; with_reducible exact H) | (have H2_ := (Option.bind_some _ _).symm.trans H; rw [hy253]; with_reducible exact H2_) | (have H2_ := (Option.bind_some _ _).symm.trans H; with_reducible exact H2_) | with_reducible exact H | (rw [hy253]; exact H) | exact H
    have Ny253 := Aside0.mk hy253
    clear hy253
    obtain rfl := Option.some.inj H
    go_enter Tryd.func70, Tryd.ntmps70
    go_wp2_with (first | ((with_reducible refine gate_dst (N := 1) rfl ?_); refine box_event ?hg (N := 1) ?hd (cs := #[.int .i64 a0_0, .int .i64 a0_1, .float .f64 a0_2, .string a0_3]) (t := 50) ?hr ?_; (case hd => rfl); (case hg => rfl); (case hr => first | (go_simp; done) | (go_simp; rfl)); intro gb243 hg w13 hbox hb; have n0_ := Aside0.mk (below_step (by repeat (first | (with_reducible first | exact HB.out | apply below_alloc | apply pw_below_drewN | apply below_drew1) | exact HB.out)) hb); have n1_ := Aside0.mk (hbox); have n2_ := Aside0.mk ((by rw [hg]; exact (below_size (by repeat (first | (with_reducible first | exact HB.out | apply below_alloc | apply pw_below_drewN | apply below_drew1) | exact HB.out))) : w.heap.size ≤ gb243)); have n3_ := n2_; clear HB; have HB := n0_; have BK243 := n1_; have GW243 := n2_; have GE243 := n3_; clear n0_ n1_ n2_ n3_; clear hb hbox hg; have hcz14_0 : w13.cell? ⟨gb243, 0, none⟩ = some (.int .i64 a0_0) := (blk_cell BK243.out 0).trans rfl; have hcz14_1 : w13.cell? ⟨gb243, 1, none⟩ = some (.int .i64 a0_1) := (blk_cell BK243.out 1).trans rfl; have hcz14_2 : w13.cell? ⟨gb243, 2, none⟩ = some (.float .f64 a0_2) := (blk_cell BK243.out 2).trans rfl; have hcz14_3 : w13.cell? ⟨gb243, 3, none⟩ = some (.string a0_3) := (blk_cell BK243.out 3).trans rfl; have hfz14_0 := blk_frozen BK243.out 0; have hfz14_1 := blk_frozen BK243.out 1; have hfz14_2 := blk_frozen BK243.out 2; have hfz14_3 := blk_frozen BK243.out 3) | ((with_reducible refine gate_dst (N := 8) rfl ?_); refine Kd.R_lit (Kd.int .u8) _ 5 ?hg (N := 8) ?hd (xs := ([(wrap64 (a0_0 + 1)) % 256] : List Int)) (inner := [.int .u8 ((wrap64 (a0_0 + 1)) % 256)]) (ok := fun _ => True) (okp := fun _ => True) ?hr ?hp (fun _ hk => hk) trivial (Below.refl _ _) (Nat.le_refl _) (by simp) ?_; (case hd => rfl); (case hg => rfl); (case hr => first | (go_simp; done) | (go_simp; rfl)); (case hp => exact (Reps.one (show Kd.M (Kd.int .u8) _ _ _ ((wrap64 (a0_0 + 1)) % 256) [.int .u8 ((wrap64 (a0_0 + 1)) % 256)] from rfl) (Reps.none _ _))); intro v245 w15 ho16 hb hg_ hnew_; clear hg_ hnew_; (first | rw [← Ny244.out] at ho16 | (simp only [Int.reduceToNat] at ho16; rw [← Ny244.out] at ho16)); have n0_ := Aside0.mk (Kd.R_lower ho16 (below_size (by repeat (first | (with_reducible first | exact HB.out | apply below_alloc | apply pw_below_drewN | apply below_drew1 | refine below_set ?_ GE243.out) | exact HB.out)))); have n1_ := Aside0.mk (blk_below (g := gb243) (o := .cells #[.int .i64 a0_0, .int .i64 a0_1, .float .f64 a0_2, .string a0_3] 50 (0, 0)) (by (with_reducible repeat (first | refine blk_drewN ?_ _ | refine blk_drew ?_ | refine blk_alloc ?_ _)); exact BK243.out) hb); have n2_ := Aside0.mk (below_step (by repeat (first | (with_reducible first | exact HB.out | apply below_alloc | apply pw_below_drewN | apply below_drew1 | refine below_set ?_ GE243.out) | exact HB.out)) hb); clear BK243; clear HB; have HO246 := n0_; have BK243 := n1_; have HB := n2_; clear n0_ n1_ n2_; clear hb ho16; have hcz17_0 : w15.cell? ⟨gb243, 0, none⟩ = some (.int .i64 a0_0) := (blk_cell BK243.out 0).trans rfl; have hcz17_1 : w15.cell? ⟨gb243, 1, none⟩ = some (.int .i64 a0_1) := (blk_cell BK243.out 1).trans rfl; have hcz17_2 : w15.cell? ⟨gb243, 2, none⟩ = some (.float .f64 a0_2) := (blk_cell BK243.out 2).trans rfl; have hcz17_3 : w15.cell? ⟨gb243, 3, none⟩ = some (.string a0_3) := (blk_cell BK243.out 3).trans rfl; have hfz17_0 := blk_frozen BK243.out 0; have hfz17_1 := blk_frozen BK243.out 1; have hfz17_2 := blk_frozen BK243.out 2; have hfz17_3 := blk_frozen BK243.out 3) | ((with_reducible refine gate_callee (f := 104) rfl ?_); refine goesL_ (some 24) rfl rfl Tryd.func104 (by kernel_rfl) rfl #[.int .i64 a0_1] rfl (by (try simp only [List.map_toArray, List.map_cons, List.map_nil]); first | done | rfl | (simp only [List.length_drop, List.length_take]; rfl)) ?_; (with_reducible refine (vellumref02_whole.calls k a0_1 t250 _ A11.out).mono ?_); rintro e w18 ⟨v251, rfl, ho0, hb⟩; refine ⟨_, rfl, ?_⟩; have n0_ := Aside0.mk (Kd.R_elder' (by (with_reducible repeat (first | apply Kd.R_alloc | apply Kd.R_drewN | apply Kd.R_drew)); exact HO246.out) (Kd.R_base ho0) hb); have n1_ := Aside0.mk (Kd.R_lower (Kd.R_new' ho0 (Kd.R_lt (by (with_reducible repeat (first | apply Kd.R_alloc | apply Kd.R_drewN | apply Kd.R_drew)); exact HO246.out))) (below_size (by repeat (first | (with_reducible first | exact HB.out | apply below_alloc | apply pw_below_drewN | apply below_drew1 | refine below_set ?_ GE243.out) | exact HB.out)))); have n2_ := Aside0.mk (blk_below (g := gb243) (o := .cells #[.int .i64 a0_0, .int .i64 a0_1, .float .f64 a0_2, .string a0_3] 50 (0, 0)) (by (with_reducible repeat (first | refine blk_drewN ?_ _ | refine blk_drew ?_ | refine blk_alloc ?_ _)); exact BK243.out) hb); have n3_ := Aside0.mk (below_step (by repeat (first | (with_reducible first | exact HB.out | apply below_alloc | apply pw_below_drewN | apply below_drew1 | refine below_set ?_ GE243.out) | exact HB.out)) hb); clear HO246; clear BK243; clear HB; have HO246 := n0_; have HO252 := n1_; have BK243 := n2_; have HB := n3_; clear n0_ n1_ n2_ n3_; (try clear hb); (try clear hb2); (try clear hk); (try clear hi); (try clear ho0); obtain ⟨Ao20, co20, eo20⟩ := Kd.R_slice HO252.out; subst eo20) | ((with_reducible refine gate_builtin (b := .append) (xs := #[.tmp 21, .tmp 24]) rfl ?_); at_builtin; refine Kd.R_append_rows (Kd.int .u8) (w0 := w) w.heap.size rfl (.tmp 21) (.tmp 24) 80 5 (.int .u8 0) 1 rfl Tryd.underlying80 info5 rfl (by decide) (by omega) v245 y244 t250 _ _ _ (fun k_ => some k_ ≠ (.slice Ao20 t250.length co20 : Value).ownBlock) (fun _ => False) rfl rfl ?aO ?aR (fun _ _ h => h) (fun _ h => h.elim) ?aF ?aB ?aS ?aL ?_; (case aR => repeat (first | exact (Kd.R_reads' HO252.out).2.2 | (with_reducible refine Kd.C_alloc ?_ _) | (with_reducible refine Kd.C_drewN ?_ _) | (with_reducible refine Kd.C_drew ?_))); (case aB => exact (by repeat (first | (with_reducible first | exact HB.out | apply below_alloc | apply pw_below_drewN | apply below_drew1 | refine below_set ?_ GE243.out) | exact HB.out))); (case aF => exact (fun k_ hk => Kd.fresh' (Kd.R_lt (by (with_reducible repeat (first | apply Kd.R_alloc | apply Kd.R_drewN | apply Kd.R_drew)); exact HO252.out)) k_ hk)); (case aO => exact (by (with_reducible repeat (first | apply Kd.R_alloc | apply Kd.R_drewN | apply Kd.R_drew)); exact Kd.R_mono HO246.out (fun _ hk => hk.2))); (case aS => exact (below_size (by repeat (first | (with_reducible first | exact HB.out | apply below_alloc | apply pw_below_drewN | apply below_drew1 | refine below_set ?_ GE243.out) | exact HB.out)))); (case aL => have := LMc12.out; omega); intro v254 w19 ho hb hg hat; rw [← Ny253.out] at ho; have n0_ := Aside0.mk (blk_grown (g := gb243) (o := .cells #[.int .i64 a0_0, .int .i64 a0_1, .float .f64 a0_2, .string a0_3] 50 (0, 0)) (by (with_reducible repeat (first | refine blk_drewN ?_ _ | refine blk_drew ?_ | refine blk_alloc ?_ _)); exact BK243.out) hg (Kd.R_ne HO246.out BK243.out (by decide))); have n1_ := Aside0.mk (Kd.R_after (ok := (fun _ => True)) (by (with_reducible repeat (first | apply Kd.R_alloc | apply Kd.R_drewN | apply Kd.R_drew)); exact HO252.out) hg hat); have n2_ := Aside0.mk (hb); have n3_ := Aside0.mk (ho); clear BK243; clear HO252; clear HB; clear HO246; have BK243 := n0_; have HO252 := n1_; have HB := n2_; have HO255 := n3_; clear n0_ n1_ n2_ n3_; clear ho hb hg hat))
    go_ret
    exact ⟨_, by first | rfl | (simp [errW_none, errW_some] <;> rfl) | (simp [*, errW_none, errW_some] <;> rfl), by (with_reducible repeat (first | apply Kd.R_alloc | apply Kd.R_drewN | apply Kd.R_drew)); exact Kd.R_mono HO255.out (fun _ hk => trivial), by repeat (first | (with_reducible first | exact HB.out | apply below_alloc | apply pw_below_drewN | apply below_drew1 | refine below_set ?_ GE243.out) | exact HB.out)⟩
   ·rw [if_neg c12] at H
    exact absurd H (by simp)
  ·rw [if_neg c10] at H
   have c10b0 : (a0_0 == 2) = false := beq_eq_false_iff_ne.mpr c10
   have c10b1 : (a0_0 != 2) = true := bne_iff_ne.mpr c10
   by_cases c21 : a0_0 = 3
   ·rw [if_pos c21] at H
    have c21b0 : (a0_0 == 3) = true := beq_iff_eq.mpr c21
    have c21b1 : (a0_0 != 3) = false := bne_eq_false_iff_eq.mpr c21
    clear c21
    replace H := Option.bind_eq_some_iff.mp H
    obtain ⟨t256, A220, H⟩ := H
    replace H : (if y244.length + t256.length < 140737488355328 then (some (y244 ++ t256)) else (none)) = some r := H
    have A22 := Aside0.mk A220
    clear A220
    by_cases c23 : y244.length + t256.length < 140737488355328
    ·rw [if_pos c23] at H
     have LMc23 := Aside0.mk c23
     clear c23
     obtain ⟨y259, hy259⟩ : ∃ y_ : List Int, y_ = (y244 ++ t256) := ⟨_, rfl⟩
     replace H : (some y259) = some r := by first | (rw [hy259]; with_reducible exact H) | (have H2_ := (Option.bind_some _ _).symm.trans H; rw [hy259]; with_reducible exact H2_) | (have H2_ := (Option.bind_some _ _).symm.trans H; with_reducible exact H2_) | with_reducible exact H | (rw [hy259]; exact H) | exact H
     have Ny259 := Aside0.mk hy259
     clear hy259
     obtain rfl := Option.some.inj H
     go_enter Tryd.func70, Tryd.ntmps70
     go_wp2_with (first | ((with_reducible refine gate_dst (N := 1) rfl ?_); refine box_event ?hg (N := 1) ?hd (cs := #[.int .i64 a0_0, .int .i64 a0_1, .float .f64 a0_2, .string a0_3]) (t := 50) ?hr ?_; (case hd => rfl); (case hg => rfl); (case hr => first | (go_simp; done) | (go_simp; rfl)); intro gb243 hg w24 hbox hb; have n0_ := Aside0.mk (below_step (by repeat (first | (with_reducible first | exact HB.out | apply below_alloc | apply pw_below_drewN | apply below_drew1) | exact HB.out)) hb); have n1_ := Aside0.mk (hbox); have n2_ := Aside0.mk ((by rw [hg]; exact (below_size (by repeat (first | (with_reducible first | exact HB.out | apply below_alloc | apply pw_below_drewN | apply below_drew1) | exact HB.out))) : w.heap.size ≤ gb243)); have n3_ := n2_; clear HB; have HB := n0_; have BK243 := n1_; have GW243 := n2_; have GE243 := n3_; clear n0_ n1_ n2_ n3_; clear hb hbox hg; have hcz25_0 : w24.cell? ⟨gb243, 0, none⟩ = some (.int .i64 a0_0) := (blk_cell BK243.out 0).trans rfl; have hcz25_1 : w24.cell? ⟨gb243, 1, none⟩ = some (.int .i64 a0_1) := (blk_cell BK243.out 1).trans rfl; have hcz25_2 : w24.cell? ⟨gb243, 2, none⟩ = some (.float .f64 a0_2) := (blk_cell BK243.out 2).trans rfl; have hcz25_3 : w24.cell? ⟨gb243, 3, none⟩ = some (.string a0_3) := (blk_cell BK243.out 3).trans rfl; have hfz25_0 := blk_frozen BK243.out 0; have hfz25_1 := blk_frozen BK243.out 1; have hfz25_2 := blk_frozen BK243.out 2; have hfz25_3 := blk_frozen BK243.out 3) | ((with_reducible refine gate_dst (N := 8) rfl ?_); refine Kd.R_lit (Kd.int .u8) _ 5 ?hg (N := 8) ?hd (xs := ([(wrap64 (a0_0 + 1)) % 256] : List Int)) (inner := [.int .u8 ((wrap64 (a0_0 + 1)) % 256)]) (ok := fun _ => True) (okp := fun _ => True) ?hr ?hp (fun _ hk => hk) trivial (Below.refl _ _) (Nat.le_refl _) (by simp) ?_; (case hd => rfl); (case hg => rfl); (case hr => first | (go_simp; done) | (go_simp; rfl)); (case hp => exact (Reps.one (show Kd.M (Kd.int .u8) _ _ _ ((wrap64 (a0_0 + 1)) % 256) [.int .u8 ((wrap64 (a0_0 + 1)) % 256)] from rfl) (Reps.none _ _))); intro v245 w26 ho27 hb hg_ hnew_; clear hg_ hnew_; (first | rw [← Ny244.out] at ho27 | (simp only [Int.reduceToNat] at ho27; rw [← Ny244.out] at ho27)); have n0_ := Aside0.mk (Kd.R_lower ho27 (below_size (by repeat (first | (with_reducible first | exact HB.out | apply below_alloc | apply pw_below_drewN | apply below_drew1 | refine below_set ?_ GE243.out) | exact HB.out)))); have n1_ := Aside0.mk (blk_below (g := gb243) (o := .cells #[.int .i64 a0_0, .int .i64 a0_1, .float .f64 a0_2, .string a0_3] 50 (0, 0)) (by (with_reducible repeat (first | refine blk_drewN ?_ _ | refine blk_drew ?_ | refine blk_alloc ?_ _)); exact BK243.out) hb); have n2_ := Aside0.mk (below_step (by repeat (first | (with_reducible first | exact HB.out | apply below_alloc | apply pw_below_drewN | apply below_drew1 | refine below_set ?_ GE243.out) | exact HB.out)) hb); clear BK243; clear HB; have HO246 := n0_; have BK243 := n1_; have HB := n2_; clear n0_ n1_ n2_; clear hb ho27; have hcz28_0 : w26.cell? ⟨gb243, 0, none⟩ = some (.int .i64 a0_0) := (blk_cell BK243.out 0).trans rfl; have hcz28_1 : w26.cell? ⟨gb243, 1, none⟩ = some (.int .i64 a0_1) := (blk_cell BK243.out 1).trans rfl; have hcz28_2 : w26.cell? ⟨gb243, 2, none⟩ = some (.float .f64 a0_2) := (blk_cell BK243.out 2).trans rfl; have hcz28_3 : w26.cell? ⟨gb243, 3, none⟩ = some (.string a0_3) := (blk_cell BK243.out 3).trans rfl; have hfz28_0 := blk_frozen BK243.out 0; have hfz28_1 := blk_frozen BK243.out 1; have hfz28_2 := blk_frozen BK243.out 2; have hfz28_3 := blk_frozen BK243.out 3) | ((with_reducible refine gate_callee (f := 105) rfl ?_); refine goesL_ (some 31) rfl rfl Tryd.func105 (by kernel_rfl) rfl #[.float .f64 a0_2] rfl (by (try simp only [List.map_toArray, List.map_cons, List.map_nil]); first | done | rfl | (simp only [List.length_drop, List.length_take]; rfl)) ?_; (with_reducible refine (vellumref02_real.calls k a0_2 t256 _ A22.out).mono ?_); rintro e w29 ⟨v257, rfl, ho0, hb⟩; refine ⟨_, rfl, ?_⟩; have n0_ := Aside0.mk (Kd.R_elder' (by (with_reducible repeat (first | apply Kd.R_alloc | apply Kd.R_drewN | apply Kd.R_drew)); exact HO246.out) (Kd.R_base ho0) hb); have n1_ := Aside0.mk (Kd.R_lower (Kd.R_new' ho0 (Kd.R_lt (by (with_reducible repeat (first | apply Kd.R_alloc | apply Kd.R_drewN | apply Kd.R_drew)); exact HO246.out))) (below_size (by repeat (first | (with_reducible first | exact HB.out | apply below_alloc | apply pw_below_drewN | apply below_drew1 | refine below_set ?_ GE243.out) | exact HB.out)))); have n2_ := Aside0.mk (blk_below (g := gb243) (o := .cells #[.int .i64 a0_0, .int .i64 a0_1, .float .f64 a0_2, .string a0_3] 50 (0, 0)) (by (with_reducible repeat (first | refine blk_drewN ?_ _ | refine blk_drew ?_ | refine blk_alloc ?_ _)); exact BK243.out) hb); have n3_ := Aside0.mk (below_step (by repeat (first | (with_reducible first | exact HB.out | apply below_alloc | apply pw_below_drewN | apply below_drew1 | refine below_set ?_ GE243.out) | exact HB.out)) hb); clear HO246; clear BK243; clear HB; have HO246 := n0_; have HO258 := n1_; have BK243 := n2_; have HB := n3_; clear n0_ n1_ n2_ n3_; (try clear hb); (try clear hb2); (try clear hk); (try clear hi); (try clear ho0); obtain ⟨Ao31, co31, eo31⟩ := Kd.R_slice HO258.out; subst eo31) | ((with_reducible refine gate_builtin (b := .append) (xs := #[.tmp 28, .tmp 31]) rfl ?_); at_builtin; refine Kd.R_append_rows (Kd.int .u8) (w0 := w) w.heap.size rfl (.tmp 28) (.tmp 31) 80 5 (.int .u8 0) 1 rfl Tryd.underlying80 info5 rfl (by decide) (by omega) v245 y244 t256 _ _ _ (fun k_ => some k_ ≠ (.slice Ao31 t256.length co31 : Value).ownBlock) (fun _ => False) rfl rfl ?aO ?aR (fun _ _ h => h) (fun _ h => h.elim) ?aF ?aB ?aS ?aL ?_; (case aR => repeat (first | exact (Kd.R_reads' HO258.out).2.2 | (with_reducible refine Kd.C_alloc ?_ _) | (with_reducible refine Kd.C_drewN ?_ _) | (with_reducible refine Kd.C_drew ?_))); (case aB => exact (by repeat (first | (with_reducible first | exact HB.out | apply below_alloc | apply pw_below_drewN | apply below_drew1 | refine below_set ?_ GE243.out) | exact HB.out))); (case aF => exact (fun k_ hk => Kd.fresh' (Kd.R_lt (by (with_reducible repeat (first | apply Kd.R_alloc | apply Kd.R_drewN | apply Kd.R_drew)); exact HO258.out)) k_ hk)); (case aO => exact (by (with_reducible repeat (first | apply Kd.R_alloc | apply Kd.R_drewN | apply Kd.R_drew)); exact Kd.R_mono HO246.out (fun _ hk => hk.2))); (case aS => exact (below_size (by repeat (first | (with_reducible first | exact HB.out | apply below_alloc | apply pw_below_drewN | apply below_drew1 | refine below_set ?_ GE243.out) | exact HB.out)))); (case aL => have := LMc23.out; omega); intro v260 w30 ho hb hg hat; rw [← Ny259.out] at ho; have n0_ := Aside0.mk (blk_grown (g := gb243) (o := .cells #[.int .i64 a0_0, .int .i64 a0_1, .float .f64 a0_2, .string a0_3] 50 (0, 0)) (by (with_reducible repeat (first | refine blk_drewN ?_ _ | refine blk_drew ?_ | refine blk_alloc ?_ _)); exact BK243.out) hg (Kd.R_ne HO246.out BK243.out (by decide))); have n1_ := Aside0.mk (Kd.R_after (ok := (fun _ => True)) (by (with_reducible repeat (first | apply Kd.R_alloc | apply Kd.R_drewN | apply Kd.R_drew)); exact HO258.out) hg hat); have n2_ := Aside0.mk (hb); have n3_ := Aside0.mk (ho); clear BK243; clear HO258; clear HB; clear HO246; have BK243 := n0_; have HO258 := n1_; have HB := n2_; have HO261 := n3_; clear n0_ n1_ n2_ n3_; clear ho hb hg hat))
     go_ret
     exact ⟨_, by first | rfl | (simp [errW_none, errW_some] <;> rfl) | (simp [*, errW_none, errW_some] <;> rfl), by (with_reducible repeat (first | apply Kd.R_alloc | apply Kd.R_drewN | apply Kd.R_drew)); exact Kd.R_mono HO261.out (fun _ hk => trivial), by repeat (first | (with_reducible first | exact HB.out | apply below_alloc | apply pw_below_drewN | apply below_drew1 | refine below_set ?_ GE243.out) | exact HB.out)⟩
    ·rw [if_neg c23] at H
     exact absurd H (by simp)
   ·rw [if_neg c21] at H
    have c21b0 : (a0_0 == 3) = false := beq_eq_false_iff_ne.mpr c21
    have c21b1 : (a0_0 != 3) = true := bne_iff_ne.mpr c21
    by_cases c32 : a0_0 = 4
    ·rw [if_pos c32] at H
     have c32b0 : (a0_0 == 4) = true := beq_iff_eq.mpr c32
     have c32b1 : (a0_0 != 4) = false := bne_eq_false_iff_eq.mpr c32
     clear c32
     replace H := Option.bind_eq_some_iff.mp H
     obtain ⟨t262, A330, H⟩ := H
     replace H : (if y244.length + t262.length < 140737488355328 then (some (y244 ++ t262)) else (none)) = some r := H
     have A33 := Aside0.mk A330
     clear A330
     by_cases c34 : y244.length + t262.length < 140737488355328
     ·rw [if_pos c34] at H
      have LMc34 := Aside0.mk c34
      clear c34
      obtain ⟨y265, hy265⟩ : ∃ y_ : List Int, y_ = (y244 ++ t262) := ⟨_, rfl⟩
      replace H : (some y265) = some r := by first | (rw [hy265]; with_reducible exact H) | (have H2_ := (Option.bind_some _ _).symm.trans H; rw [hy265]; with_reducible exact H2_) | (have H2_ := (Option.bind_some _ _).symm.trans H; with_reducible exact H2_) | with_reducible exact H | (rw [hy265]; exact H) | exact H
      have Ny265 := Aside0.mk hy265
      clear hy265
      obtain rfl := Option.some.inj H
      go_enter Tryd.func70, Tryd.ntmps70
      go_wp2_with (first | ((with_reducible refine gate_dst (N := 1) rfl ?_); refine box_event ?hg (N := 1) ?hd (cs := #[.int .i64 a0_0, .int .i64 a0_1, .float .f64 a0_2, .string a0_3]) (t := 50) ?hr ?_; (case hd => rfl); (case hg => rfl); (case hr => first | (go_simp; done) | (go_simp; rfl)); intro gb243 hg w35 hbox hb; have n0_ := Aside0.mk (below_step (by repeat (first | (with_reducible first | exact HB.out | apply below_alloc | apply pw_below_drewN | apply below_drew1) | exact HB.out)) hb); have n1_ := Aside0.mk (hbox); have n2_ := Aside0.mk ((by rw [hg]; exact (below_size (by repeat (first | (with_reducible first | exact HB.out | apply below_alloc | apply pw_below_drewN | apply below_drew1) | exact HB.out))) : w.heap.size ≤ gb243)); have n3_ := n2_; clear HB; have HB := n0_; have BK243 := n1_; have GW243 := n2_; have GE243 := n3_; clear n0_ n1_ n2_ n3_; clear hb hbox hg; have hcz36_0 : w35.cell? ⟨gb243, 0, none⟩ = some (.int .i64 a0_0) := (blk_cell BK243.out 0).trans rfl; have hcz36_1 : w35.cell? ⟨gb243, 1, none⟩ = some (.int .i64 a0_1) := (blk_cell BK243.out 1).trans rfl; have hcz36_2 : w35.cell? ⟨gb243, 2, none⟩ = some (.float .f64 a0_2) := (blk_cell BK243.out 2).trans rfl; have hcz36_3 : w35.cell? ⟨gb243, 3, none⟩ = some (.string a0_3) := (blk_cell BK243.out 3).trans rfl; have hfz36_0 := blk_frozen BK243.out 0; have hfz36_1 := blk_frozen BK243.out 1; have hfz36_2 := blk_frozen BK243.out 2; have hfz36_3 := blk_frozen BK243.out 3) | ((with_reducible refine gate_dst (N := 8) rfl ?_); refine Kd.R_lit (Kd.int .u8) _ 5 ?hg (N := 8) ?hd (xs := ([(wrap64 (a0_0 + 1)) % 256] : List Int)) (inner := [.int .u8 ((wrap64 (a0_0 + 1)) % 256)]) (ok := fun _ => True) (okp := fun _ => True) ?hr ?hp (fun _ hk => hk) trivial (Below.refl _ _) (Nat.le_refl _) (by simp) ?_; (case hd => rfl); (case hg => rfl); (case hr => first | (go_simp; done) | (go_simp; rfl)); (case hp => exact (Reps.one (show Kd.M (Kd.int .u8) _ _ _ ((wrap64 (a0_0 + 1)) % 256) [.int .u8 ((wrap64 (a0_0 + 1)) % 256)] from rfl) (Reps.none _ _))); intro v245 w37 ho38 hb hg_ hnew_; clear hg_ hnew_; (first | rw [← Ny244.out] at ho38 | (simp only [Int.reduceToNat] at ho38; rw [← Ny244.out] at ho38)); have n0_ := Aside0.mk (Kd.R_lower ho38 (below_size (by repeat (first | (with_reducible first | exact HB.out | apply below_alloc | apply pw_below_drewN | apply below_drew1 | refine below_set ?_ GE243.out) | exact HB.out)))); have n1_ := Aside0.mk (blk_below (g := gb243) (o := .cells #[.int .i64 a0_0, .int .i64 a0_1, .float .f64 a0_2, .string a0_3] 50 (0, 0)) (by (with_reducible repeat (first | refine blk_drewN ?_ _ | refine blk_drew ?_ | refine blk_alloc ?_ _)); exact BK243.out) hb); have n2_ := Aside0.mk (below_step (by repeat (first | (with_reducible first | exact HB.out | apply below_alloc | apply pw_below_drewN | apply below_drew1 | refine below_set ?_ GE243.out) | exact HB.out)) hb); clear BK243; clear HB; have HO246 := n0_; have BK243 := n1_; have HB := n2_; clear n0_ n1_ n2_; clear hb ho38; have hcz39_0 : w37.cell? ⟨gb243, 0, none⟩ = some (.int .i64 a0_0) := (blk_cell BK243.out 0).trans rfl; have hcz39_1 : w37.cell? ⟨gb243, 1, none⟩ = some (.int .i64 a0_1) := (blk_cell BK243.out 1).trans rfl; have hcz39_2 : w37.cell? ⟨gb243, 2, none⟩ = some (.float .f64 a0_2) := (blk_cell BK243.out 2).trans rfl; have hcz39_3 : w37.cell? ⟨gb243, 3, none⟩ = some (.string a0_3) := (blk_cell BK243.out 3).trans rfl; have hfz39_0 := blk_frozen BK243.out 0; have hfz39_1 := blk_frozen BK243.out 1; have hfz39_2 := blk_frozen BK243.out 2; have hfz39_3 := blk_frozen BK243.out 3) | ((with_reducible refine gate_callee (f := 106) rfl ?_); refine goesL_ (some 39) rfl rfl Tryd.func106 (by kernel_rfl) rfl #[.string a0_3] rfl (by (try simp only [List.map_toArray, List.map_cons, List.map_nil]); first | done | rfl | (simp only [List.length_drop, List.length_take]; rfl)) ?_; (with_reducible refine (vellumref02_ended.calls k a0_3 t262 _ A33.out).mono ?_); rintro e w40 ⟨v263, rfl, ho0, hb⟩; refine ⟨_, rfl, ?_⟩; have n0_ := Aside0.mk (Kd.R_elder' (by (with_reducible repeat (first | apply Kd.R_alloc | apply Kd.R_drewN | apply Kd.R_drew)); exact HO246.out) (Kd.R_base ho0) hb); have n1_ := Aside0.mk (Kd.R_lower (Kd.R_new' ho0 (Kd.R_lt (by (with_reducible repeat (first | apply Kd.R_alloc | apply Kd.R_drewN | apply Kd.R_drew)); exact HO246.out))) (below_size (by repeat (first | (with_reducible first | exact HB.out | apply below_alloc | apply pw_below_drewN | apply below_drew1 | refine below_set ?_ GE243.out) | exact HB.out)))); have n2_ := Aside0.mk (blk_below (g := gb243) (o := .cells #[.int .i64 a0_0, .int .i64 a0_1, .float .f64 a0_2, .string a0_3] 50 (0, 0)) (by (with_reducible repeat (first | refine blk_drewN ?_ _ | refine blk_drew ?_ | refine blk_alloc ?_ _)); exact BK243.out) hb); have n3_ := Aside0.mk (below_step (by repeat (first | (with_reducible first | exact HB.out | apply below_alloc | apply pw_below_drewN | apply below_drew1 | refine below_set ?_ GE243.out) | exact HB.out)) hb); clear HO246; clear BK243; clear HB; have HO246 := n0_; have HO264 := n1_; have BK243 := n2_; have HB := n3_; clear n0_ n1_ n2_ n3_; (try clear hb); (try clear hb2); (try clear hk); (try clear hi); (try clear ho0); obtain ⟨Ao42, co42, eo42⟩ := Kd.R_slice HO264.out; subst eo42) | ((with_reducible refine gate_builtin (b := .append) (xs := #[.tmp 36, .tmp 39]) rfl ?_); at_builtin; refine Kd.R_append_rows (Kd.int .u8) (w0 := w) w.heap.size rfl (.tmp 36) (.tmp 39) 80 5 (.int .u8 0) 1 rfl Tryd.underlying80 info5 rfl (by decide) (by omega) v245 y244 t262 _ _ _ (fun k_ => some k_ ≠ (.slice Ao42 t262.length co42 : Value).ownBlock) (fun _ => False) rfl rfl ?aO ?aR (fun _ _ h => h) (fun _ h => h.elim) ?aF ?aB ?aS ?aL ?_; (case aR => repeat (first | exact (Kd.R_reads' HO264.out).2.2 | (with_reducible refine Kd.C_alloc ?_ _) | (with_reducible refine Kd.C_drewN ?_ _) | (with_reducible refine Kd.C_drew ?_))); (case aB => exact (by repeat (first | (with_reducible first | exact HB.out | apply below_alloc | apply pw_below_drewN | apply below_drew1 | refine below_set ?_ GE243.out) | exact HB.out))); (case aF => exact (fun k_ hk => Kd.fresh' (Kd.R_lt (by (with_reducible repeat (first | apply Kd.R_alloc | apply Kd.R_drewN | apply Kd.R_drew)); exact HO264.out)) k_ hk)); (case aO => exact (by (with_reducible repeat (first | apply Kd.R_alloc | apply Kd.R_drewN | apply Kd.R_drew)); exact Kd.R_mono HO246.out (fun _ hk => hk.2))); (case aS => exact (below_size (by repeat (first | (with_reducible first | exact HB.out | apply below_alloc | apply pw_below_drewN | apply below_drew1 | refine below_set ?_ GE243.out) | exact HB.out)))); (case aL => have := LMc34.out; omega); intro v266 w41 ho hb hg hat; rw [← Ny265.out] at ho; have n0_ := Aside0.mk (blk_grown (g := gb243) (o := .cells #[.int .i64 a0_0, .int .i64 a0_1, .float .f64 a0_2, .string a0_3] 50 (0, 0)) (by (with_reducible repeat (first | refine blk_drewN ?_ _ | refine blk_drew ?_ | refine blk_alloc ?_ _)); exact BK243.out) hg (Kd.R_ne HO246.out BK243.out (by decide))); have n1_ := Aside0.mk (Kd.R_after (ok := (fun _ => True)) (by (with_reducible repeat (first | apply Kd.R_alloc | apply Kd.R_drewN | apply Kd.R_drew)); exact HO264.out) hg hat); have n2_ := Aside0.mk (hb); have n3_ := Aside0.mk (ho); clear BK243; clear HO264; clear HB; clear HO246; have BK243 := n0_; have HO264 := n1_; have HB := n2_; have HO267 := n3_; clear n0_ n1_ n2_ n3_; clear ho hb hg hat))
      go_ret
      exact ⟨_, by first | rfl | (simp [errW_none, errW_some] <;> rfl) | (simp [*, errW_none, errW_some] <;> rfl), by (with_reducible repeat (first | apply Kd.R_alloc | apply Kd.R_drewN | apply Kd.R_drew)); exact Kd.R_mono HO267.out (fun _ hk => trivial), by repeat (first | (with_reducible first | exact HB.out | apply below_alloc | apply pw_below_drewN | apply below_drew1 | refine below_set ?_ GE243.out) | exact HB.out)⟩
     ·rw [if_neg c34] at H
      exact absurd H (by simp)
    ·rw [if_neg c32] at H
     have c32b0 : (a0_0 == 4) = false := beq_eq_false_iff_ne.mpr c32
     have c32b1 : (a0_0 != 4) = true := bne_iff_ne.mpr c32
     by_cases c43 : a0_0 = 5
     ·rw [if_pos c43] at H
      have c43b0 : (a0_0 == 5) = true := beq_iff_eq.mpr c43
      have c43b1 : (a0_0 != 5) = false := bne_eq_false_iff_eq.mpr c43
      clear c43
      replace H := Option.bind_eq_some_iff.mp H
      obtain ⟨t268, A440, H⟩ := H
      replace H : (if y244.length + t268.length < 140737488355328 then (some (y244 ++ t268)) else (none)) = some r := H
      have A44 := Aside0.mk A440
      clear A440
      by_cases c45 : y244.length + t268.length < 140737488355328
      ·rw [if_pos c45] at H
       have LMc45 := Aside0.mk c45
       clear c45
       obtain ⟨y271, hy271⟩ : ∃ y_ : List Int, y_ = (y244 ++ t268) := ⟨_, rfl⟩
       replace H : (some y271) = some r := by first | (rw [hy271]; with_reducible exact H) | (have H2_ := (Option.bind_some _ _).symm.trans H; rw [hy271]; with_reducible exact H2_) | (have H2_ := (Option.bind_some _ _).symm.trans H; with_reducible exact H2_) | with_reducible exact H | (rw [hy271]; exact H) | exact H
       have Ny271 := Aside0.mk hy271
       clear hy271
       obtain rfl := Option.some.inj H
       go_enter Tryd.func70, Tryd.ntmps70
       go_wp2_with (first | ((with_reducible refine gate_dst (N := 1) rfl ?_); refine box_event ?hg (N := 1) ?hd (cs := #[.int .i64 a0_0, .int .i64 a0_1, .float .f64 a0_2, .string a0_3]) (t := 50) ?hr ?_; (case hd => rfl); (case hg => rfl); (case hr => first | (go_simp; done) | (go_simp; rfl)); intro gb243 hg w46 hbox hb; have n0_ := Aside0.mk (below_step (by repeat (first | (with_reducible first | exact HB.out | apply below_alloc | apply pw_below_drewN | apply below_drew1) | exact HB.out)) hb); have n1_ := Aside0.mk (hbox); have n2_ := Aside0.mk ((by rw [hg]; exact (below_size (by repeat (first | (with_reducible first | exact HB.out | apply below_alloc | apply pw_below_drewN | apply below_drew1) | exact HB.out))) : w.heap.size ≤ gb243)); have n3_ := n2_; clear HB; have HB := n0_; have BK243 := n1_; have GW243 := n2_; have GE243 := n3_; clear n0_ n1_ n2_ n3_; clear hb hbox hg; have hcz47_0 : w46.cell? ⟨gb243, 0, none⟩ = some (.int .i64 a0_0) := (blk_cell BK243.out 0).trans rfl; have hcz47_1 : w46.cell? ⟨gb243, 1, none⟩ = some (.int .i64 a0_1) := (blk_cell BK243.out 1).trans rfl; have hcz47_2 : w46.cell? ⟨gb243, 2, none⟩ = some (.float .f64 a0_2) := (blk_cell BK243.out 2).trans rfl; have hcz47_3 : w46.cell? ⟨gb243, 3, none⟩ = some (.string a0_3) := (blk_cell BK243.out 3).trans rfl; have hfz47_0 := blk_frozen BK243.out 0; have hfz47_1 := blk_frozen BK243.out 1; have hfz47_2 := blk_frozen BK243.out 2; have hfz47_3 := blk_frozen BK243.out 3) | ((with_reducible refine gate_dst (N := 8) rfl ?_); refine Kd.R_lit (Kd.int .u8) _ 5 ?hg (N := 8) ?hd (xs := ([(wrap64 (a0_0 + 1)) % 256] : List Int)) (inner := [.int .u8 ((wrap64 (a0_0 + 1)) % 256)]) (ok := fun _ => True) (okp := fun _ => True) ?hr ?hp (fun _ hk => hk) trivial (Below.refl _ _) (Nat.le_refl _) (by simp) ?_; (case hd => rfl); (case hg => rfl); (case hr => first | (go_simp; done) | (go_simp; rfl)); (case hp => exact (Reps.one (show Kd.M (Kd.int .u8) _ _ _ ((wrap64 (a0_0 + 1)) % 256) [.int .u8 ((wrap64 (a0_0 + 1)) % 256)] from rfl) (Reps.none _ _))); intro v245 w48 ho49 hb hg_ hnew_; clear hg_ hnew_; (first | rw [← Ny244.out] at ho49 | (simp only [Int.reduceToNat] at ho49; rw [← Ny244.out] at ho49)); have n0_ := Aside0.mk (Kd.R_lower ho49 (below_size (by repeat (first | (with_reducible first | exact HB.out | apply below_alloc | apply pw_below_drewN | apply below_drew1 | refine below_set ?_ GE243.out) | exact HB.out)))); have n1_ := Aside0.mk (blk_below (g := gb243) (o := .cells #[.int .i64 a0_0, .int .i64 a0_1, .float .f64 a0_2, .string a0_3] 50 (0, 0)) (by (with_reducible repeat (first | refine blk_drewN ?_ _ | refine blk_drew ?_ | refine blk_alloc ?_ _)); exact BK243.out) hb); have n2_ := Aside0.mk (below_step (by repeat (first | (with_reducible first | exact HB.out | apply below_alloc | apply pw_below_drewN | apply below_drew1 | refine below_set ?_ GE243.out) | exact HB.out)) hb); clear BK243; clear HB; have HO246 := n0_; have BK243 := n1_; have HB := n2_; clear n0_ n1_ n2_; clear hb ho49; have hcz50_0 : w48.cell? ⟨gb243, 0, none⟩ = some (.int .i64 a0_0) := (blk_cell BK243.out 0).trans rfl; have hcz50_1 : w48.cell? ⟨gb243, 1, none⟩ = some (.int .i64 a0_1) := (blk_cell BK243.out 1).trans rfl; have hcz50_2 : w48.cell? ⟨gb243, 2, none⟩ = some (.float .f64 a0_2) := (blk_cell BK243.out 2).trans rfl; have hcz50_3 : w48.cell? ⟨gb243, 3, none⟩ = some (.string a0_3) := (blk_cell BK243.out 3).trans rfl; have hfz50_0 := blk_frozen BK243.out 0; have hfz50_1 := blk_frozen BK243.out 1; have hfz50_2 := blk_frozen BK243.out 2; have hfz50_3 := blk_frozen BK243.out 3) | ((with_reducible refine gate_callee (f := 106) rfl ?_); refine goesL_ (some 39) rfl rfl Tryd.func106 (by kernel_rfl) rfl #[.string a0_3] rfl (by (try simp only [List.map_toArray, List.map_cons, List.map_nil]); first | done | rfl | (simp only [List.length_drop, List.length_take]; rfl)) ?_; (with_reducible refine (vellumref02_ended.calls k a0_3 t268 _ A44.out).mono ?_); rintro e w51 ⟨v269, rfl, ho0, hb⟩; refine ⟨_, rfl, ?_⟩; have n0_ := Aside0.mk (Kd.R_elder' (by (with_reducible repeat (first | apply Kd.R_alloc | apply Kd.R_drewN | apply Kd.R_drew)); exact HO246.out) (Kd.R_base ho0) hb); have n1_ := Aside0.mk (Kd.R_lower (Kd.R_new' ho0 (Kd.R_lt (by (with_reducible repeat (first | apply Kd.R_alloc | apply Kd.R_drewN | apply Kd.R_drew)); exact HO246.out))) (below_size (by repeat (first | (with_reducible first | exact HB.out | apply below_alloc | apply pw_below_drewN | apply below_drew1 | refine below_set ?_ GE243.out) | exact HB.out)))); have n2_ := Aside0.mk (blk_below (g := gb243) (o := .cells #[.int .i64 a0_0, .int .i64 a0_1, .float .f64 a0_2, .string a0_3] 50 (0, 0)) (by (with_reducible repeat (first | refine blk_drewN ?_ _ | refine blk_drew ?_ | refine blk_alloc ?_ _)); exact BK243.out) hb); have n3_ := Aside0.mk (below_step (by repeat (first | (with_reducible first | exact HB.out | apply below_alloc | apply pw_below_drewN | apply below_drew1 | refine below_set ?_ GE243.out) | exact HB.out)) hb); clear HO246; clear BK243; clear HB; have HO246 := n0_; have HO270 := n1_; have BK243 := n2_; have HB := n3_; clear n0_ n1_ n2_ n3_; (try clear hb); (try clear hb2); (try clear hk); (try clear hi); (try clear ho0); obtain ⟨Ao53, co53, eo53⟩ := Kd.R_slice HO270.out; subst eo53) | ((with_reducible refine gate_builtin (b := .append) (xs := #[.tmp 36, .tmp 39]) rfl ?_); at_builtin; refine Kd.R_append_rows (Kd.int .u8) (w0 := w) w.heap.size rfl (.tmp 36) (.tmp 39) 80 5 (.int .u8 0) 1 rfl Tryd.underlying80 info5 rfl (by decide) (by omega) v245 y244 t268 _ _ _ (fun k_ => some k_ ≠ (.slice Ao53 t268.length co53 : Value).ownBlock) (fun _ => False) rfl rfl ?aO ?aR (fun _ _ h => h) (fun _ h => h.elim) ?aF ?aB ?aS ?aL ?_; (case aR => repeat (first | exact (Kd.R_reads' HO270.out).2.2 | (with_reducible refine Kd.C_alloc ?_ _) | (with_reducible refine Kd.C_drewN ?_ _) | (with_reducible refine Kd.C_drew ?_))); (case aB => exact (by repeat (first | (with_reducible first | exact HB.out | apply below_alloc | apply pw_below_drewN | apply below_drew1 | refine below_set ?_ GE243.out) | exact HB.out))); (case aF => exact (fun k_ hk => Kd.fresh' (Kd.R_lt (by (with_reducible repeat (first | apply Kd.R_alloc | apply Kd.R_drewN | apply Kd.R_drew)); exact HO270.out)) k_ hk)); (case aO => exact (by (with_reducible repeat (first | apply Kd.R_alloc | apply Kd.R_drewN | apply Kd.R_drew)); exact Kd.R_mono HO246.out (fun _ hk => hk.2))); (case aS => exact (below_size (by repeat (first | (with_reducible first | exact HB.out | apply below_alloc | apply pw_below_drewN | apply below_drew1 | refine below_set ?_ GE243.out) | exact HB.out)))); (case aL => have := LMc45.out; omega); intro v272 w52 ho hb hg hat; rw [← Ny271.out] at ho; have n0_ := Aside0.mk (blk_grown (g := gb243) (o := .cells #[.int .i64 a0_0, .int .i64 a0_1, .float .f64 a0_2, .string a0_3] 50 (0, 0)) (by (with_reducible repeat (first | refine blk_drewN ?_ _ | refine blk_drew ?_ | refine blk_alloc ?_ _)); exact BK243.out) hg (Kd.R_ne HO246.out BK243.out (by decide))); have n1_ := Aside0.mk (Kd.R_after (ok := (fun _ => True)) (by (with_reducible repeat (first | apply Kd.R_alloc | apply Kd.R_drewN | apply Kd.R_drew)); exact HO270.out) hg hat); have n2_ := Aside0.mk (hb); have n3_ := Aside0.mk (ho); clear BK243; clear HO270; clear HB; clear HO246; have BK243 := n0_; have HO270 := n1_; have HB := n2_; have HO273 := n3_; clear n0_ n1_ n2_ n3_; clear ho hb hg hat))
       go_ret
       exact ⟨_, by first | rfl | (simp [errW_none, errW_some] <;> rfl) | (simp [*, errW_none, errW_some] <;> rfl), by (with_reducible repeat (first | apply Kd.R_alloc | apply Kd.R_drewN | apply Kd.R_drew)); exact Kd.R_mono HO273.out (fun _ hk => trivial), by repeat (first | (with_reducible first | exact HB.out | apply below_alloc | apply pw_below_drewN | apply below_drew1 | refine below_set ?_ GE243.out) | exact HB.out)⟩
      ·rw [if_neg c45] at H
       exact absurd H (by simp)
     ·rw [if_neg c43] at H
      have c43b0 : (a0_0 == 5) = false := beq_eq_false_iff_ne.mpr c43
      have c43b1 : (a0_0 != 5) = true := bne_iff_ne.mpr c43
      obtain rfl := Option.some.inj H
      go_enter Tryd.func70, Tryd.ntmps70
      go_wp2_with (first | ((with_reducible refine gate_dst (N := 1) rfl ?_); refine box_event ?hg (N := 1) ?hd (cs := #[.int .i64 a0_0, .int .i64 a0_1, .float .f64 a0_2, .string a0_3]) (t := 50) ?hr ?_; (case hd => rfl); (case hg => rfl); (case hr => first | (go_simp; done) | (go_simp; rfl)); intro gb243 hg w54 hbox hb; have n0_ := Aside0.mk (below_step (by repeat (first | (with_reducible first | exact HB.out | apply below_alloc | apply pw_below_drewN | apply below_drew1) | exact HB.out)) hb); have n1_ := Aside0.mk (hbox); have n2_ := Aside0.mk ((by rw [hg]; exact (below_size (by repeat (first | (with_reducible first | exact HB.out | apply below_alloc | apply pw_below_drewN | apply below_drew1) | exact HB.out))) : w.heap.size ≤ gb243)); have n3_ := n2_; clear HB; have HB := n0_; have BK243 := n1_; have GW243 := n2_; have GE243 := n3_; clear n0_ n1_ n2_ n3_; clear hb hbox hg; have hcz55_0 : w54.cell? ⟨gb243, 0, none⟩ = some (.int .i64 a0_0) := (blk_cell BK243.out 0).trans rfl; have hcz55_1 : w54.cell? ⟨gb243, 1, none⟩ = some (.int .i64 a0_1) := (blk_cell BK243.out 1).trans rfl; have hcz55_2 : w54.cell? ⟨gb243, 2, none⟩ = some (.float .f64 a0_2) := (blk_cell BK243.out 2).trans rfl; have hcz55_3 : w54.cell? ⟨gb243, 3, none⟩ = some (.string a0_3) := (blk_cell BK243.out 3).trans rfl; have hfz55_0 := blk_frozen BK243.out 0; have hfz55_1 := blk_frozen BK243.out 1; have hfz55_2 := blk_frozen BK243.out 2; have hfz55_3 := blk_frozen BK243.out 3) | ((with_reducible refine gate_dst (N := 8) rfl ?_); refine Kd.R_lit (Kd.int .u8) _ 5 ?hg (N := 8) ?hd (xs := ([(wrap64 (a0_0 + 1)) % 256] : List Int)) (inner := [.int .u8 ((wrap64 (a0_0 + 1)) % 256)]) (ok := fun _ => True) (okp := fun _ => True) ?hr ?hp (fun _ hk => hk) trivial (Below.refl _ _) (Nat.le_refl _) (by simp) ?_; (case hd => rfl); (case hg => rfl); (case hr => first | (go_simp; done) | (go_simp; rfl)); (case hp => exact (Reps.one (show Kd.M (Kd.int .u8) _ _ _ ((wrap64 (a0_0 + 1)) % 256) [.int .u8 ((wrap64 (a0_0 + 1)) % 256)] from rfl) (Reps.none _ _))); intro v245 w56 ho57 hb hg_ hnew_; clear hg_ hnew_; (first | rw [← Ny244.out] at ho57 | (simp only [Int.reduceToNat] at ho57; rw [← Ny244.out] at ho57)); have n0_ := Aside0.mk (Kd.R_lower ho57 (below_size (by repeat (first | (with_reducible first | exact HB.out | apply below_alloc | apply pw_below_drewN | apply below_drew1 | refine below_set ?_ GE243.out) | exact HB.out)))); have n1_ := Aside0.mk (blk_below (g := gb243) (o := .cells #[.int .i64 a0_0, .int .i64 a0_1, .float .f64 a0_2, .string a0_3] 50 (0, 0)) (by (with_reducible repeat (first | refine blk_drewN ?_ _ | refine blk_drew ?_ | refine blk_alloc ?_ _)); exact BK243.out) hb); have n2_ := Aside0.mk (below_step (by repeat (first | (with_reducible first | exact HB.out | apply below_alloc | apply pw_below_drewN | apply below_drew1 | refine below_set ?_ GE243.out) | exact HB.out)) hb); clear BK243; clear HB; have HO246 := n0_; have BK243 := n1_; have HB := n2_; clear n0_ n1_ n2_; clear hb ho57; have hcz58_0 : w56.cell? ⟨gb243, 0, none⟩ = some (.int .i64 a0_0) := (blk_cell BK243.out 0).trans rfl; have hcz58_1 : w56.cell? ⟨gb243, 1, none⟩ = some (.int .i64 a0_1) := (blk_cell BK243.out 1).trans rfl; have hcz58_2 : w56.cell? ⟨gb243, 2, none⟩ = some (.float .f64 a0_2) := (blk_cell BK243.out 2).trans rfl; have hcz58_3 : w56.cell? ⟨gb243, 3, none⟩ = some (.string a0_3) := (blk_cell BK243.out 3).trans rfl; have hfz58_0 := blk_frozen BK243.out 0; have hfz58_1 := blk_frozen BK243.out 1; have hfz58_2 := blk_frozen BK243.out 2; have hfz58_3 := blk_frozen BK243.out 3))
      go_ret
      exact ⟨_, by first | rfl | (simp [errW_none, errW_some] <;> rfl) | (simp [*, errW_none, errW_some] <;> rfl), by (with_reducible repeat (first | apply Kd.R_alloc | apply Kd.R_drewN | apply Kd.R_drew)); exact HO246.out, by repeat (first | (with_reducible first | exact HB.out | apply below_alloc | apply pw_below_drewN | apply below_drew1 | refine below_set ?_ GE243.out) | exact HB.out)⟩
end Go.Proofs.YtpiifdbicibelaaDoor.PA
end
section
namespace Go.Proofs.YtpiifdbicibelaaDoor.PA
open Go.RowKit Go.Proofs.YtpiifdbicibelaaDoorW.PrintWords Go.Proofs.YtpiifdbicibelaaDoorW.PrintLast Go.Proofs.YtpiifdbicibelaaDoorW.PrintMore
attribute [local go_sem] max2_int min2_int max_two min_two max_three min_three max_four min_four   -- for this text's walks alone
set_option linter.unusedVariables false
set_option linter.unusedSimpArgs false
mutual
def vellumref02_Encode.l0 : Nat → List (S50) → Int → Option (ByteArray × Int)
 | 0, _, _ => none
 | k + 1, x0, x4 => if x4 < (x0.length : Int) then (if 0 ≤ x4 then ((vellumref01_Check.f k ((rd_T50 x0 x4).f0) ((rd_T50 x0 x4).f1) ((rd_T50 x0 x4).f2) ((rd_T50 x0 x4).f3)).bind fun t275 => (if t275 = 0 then (vellumref02_Encode.l0 k x0 (wrap64 (x4 + 1))) else (some ((⟨#[]⟩ : ByteArray), 10)))) else (none)) else (vellumref02_Encode.l1 k x0 ([] : List Int) 0)
def vellumref02_Encode.l1 : Nat → List (S50) → List Int → Int → Option (ByteArray × Int)
 | 0, _, _, _ => none
 | k + 1, x0, x5, x6 => if x6 < (x0.length : Int) then (if 0 ≤ x6 then ((vellumref02_code.f k ((rd_T50 x0 x6).f0) ((rd_T50 x0 x6).f1) ((rd_T50 x0 x6).f2) ((rd_T50 x0 x6).f3)).bind fun t277 => (if x5.length + t277.length < 140737488355328 then ((some (x5 ++ t277 : List Int)).bind fun y280 => (if (y280.length : Int) > 1024 then (some ((⟨#[]⟩ : ByteArray), 3)) else (vellumref02_Encode.l1 k x0 y280 (wrap64 (x6 + 1))))) else (none))) else (none)) else (some (strOfNums x5, 0))
end
def vellumref02_Encode.f (k : Nat) (l0 : List (S50)) : Option (ByteArray × Int) := vellumref02_Encode.l0 k l0 0
set_option maxHeartbeats 8000000 in
set_option maxRecDepth 100000 in
theorem vellumref02_Encode.calls (k : Nat) (A0 : Option Addr) (c0 : Nat) (l0 : List (S50)) (r1 : ByteArray) (r2 : Int) (w : World) (hr0 : Kd.C k50 w A0 l0.length l0) (hc0 : l0.length ≤ c0) (hG : Glob w) (h : vellumref02_Encode.f k l0 = some (r1, r2)) :
  Calls Tryd.prog 22 #[.slice A0 l0.length c0] w fun e w' => e = .returned (.tuple #[.string r1, .int .i64 r2]) ∧ Below w.heap.size w w' := by
 have hu50 := Tryd.underlying50
 have HR0 := Aside0.mk hr0
 have HC0 := Aside0.mk hc0
 clear hr0 hc0
 have HG := Aside0.mk hG
 clear hG
 have HB := Aside0.mk (Below.refl w.heap.size w)
 have H : (vellumref02_Encode.l0 k l0 0) = some (r1, r2) := h
 clear h
 have H' := Aside0.mk H
 clear H
 go_enter Tryd.func22, Tryd.ntmps22
 go_wp2
 go_loopg [4] k (fun kq v4 w' => ∃ (x4_1 : Int), v4 = .int .i64 x4_1 ∧ Aside0 (vellumref02_Encode.l0 kq l0 x4_1 = some (r1, r2)) ∧ Aside0 (kq ≤ k) ∧ Aside0 (Below w.heap.size w w'))
 case atStart => exact ⟨(0), (by first | rfl | (simp; done) | (simp [*]; done) | (simp [bool_ne_nil]; done) | (simp; exact bool_ne_nil _)), H', ⟨Nat.le_refl _⟩, ⟨by repeat (first | (with_reducible first | exact HB.out | apply below_alloc | apply pw_below_drewN | apply below_drew1) | exact HB.out)⟩⟩
 case round =>
  clear H'
  obtain ⟨x4_1, rfl, HA, HK1, HB⟩ := hrel
  cases gk with
  | zero => exact absurd HA.out (by simp [vellumref02_Encode.l0])
  | succ k1 =>
   have H := HA.out
   clear HA
   simp only [vellumref02_Encode.l0] at H
   by_cases c2 : x4_1 < (l0.length : Int)
   ·rw [if_pos c2] at H
    have c2b0 : decide (x4_1 < (l0.length : Int)) = true := decide_eq_true c2
    clear c2
    by_cases c3 : 0 ≤ x4_1
    ·rw [if_pos c3] at H
     have c3b0 : decide (0 ≤ x4_1) = true := decide_eq_true c3
     clear c3
     replace H := Option.bind_eq_some_iff.mp H
     obtain ⟨t275, A40, H⟩ := H
     replace H : (if t275 = 0 then (vellumref02_Encode.l0 k1 l0 (wrap64 (x4_1 + 1))) else (some ((⟨#[]⟩ : ByteArray), 10))) = some (r1, r2) := H
     have A4 := Aside0.mk A40
     clear A40
     by_cases c5 : t275 = 0
     ·rw [if_pos c5] at H
      have c5b0 : (t275 == 0) = true := beq_iff_eq.mpr c5
      have c5b1 : (t275 != 0) = false := bne_eq_false_iff_eq.mpr c5
      clear c5
      have H' := Aside0.mk H
      clear H
      have p274 : 0 ≤ (x4_1 : Int) := of_decide_eq_true (by first | (with_reducible assumption) | assumption)
      have q274 : x4_1 < (l0.length : Int) := of_decide_eq_true (by first | (with_reducible assumption) | assumption)
      obtain ⟨ad274, e274, hx274_0, hx274_1, hx274_2, hx274_3⟩ := at_T50 HR0.out x4_1 p274 q274
      cases e274
      replace hx274_0 := (HB.out.cell (World.block_lt_of_cell? w _ hx274_0)).trans hx274_0
      replace hx274_1 := (HB.out.cell (World.block_lt_of_cell? w _ hx274_1)).trans hx274_1
      replace hx274_2 := (HB.out.cell (World.block_lt_of_cell? w _ hx274_2)).trans hx274_2
      replace hx274_3 := (HB.out.cell (World.block_lt_of_cell? w _ hx274_3)).trans hx274_3
      replace p274 := eq_true p274
      replace q274 := eq_true q274
      go_wp2_with (first | ((with_reducible refine gate_callee (f := 69) rfl ?_); refine goesL_ (some 17) rfl rfl Tryd.func69 (by kernel_rfl) rfl #[.agg #[.int .i64 ((rd_T50 l0 x4_1).f0), .int .i64 ((rd_T50 l0 x4_1).f1), .float .f64 ((rd_T50 l0 x4_1).f2), .string ((rd_T50 l0 x4_1).f3)]] rfl (by (try simp only [List.map_toArray, List.map_cons, List.map_nil]); first | done | rfl | (simp only [List.length_drop, List.length_take]; rfl)) ?_; (with_reducible refine (vellumref01_Check.calls k1 ((rd_T50 l0 x4_1).f0) ((rd_T50 l0 x4_1).f1) ((rd_T50 l0 x4_1).f2) ((rd_T50 l0 x4_1).f3) t275 _ ?side1 A4.out).mono ?_); (case side1 => exact Glob.below HG.out (by repeat (first | (with_reducible first | exact HB.out | apply below_alloc | apply pw_below_drewN | apply below_drew1) | exact HB.out))); rintro e w6 ⟨rfl, hb⟩; refine ⟨_, rfl, ?_⟩; have n0_ := Aside0.mk (below_step (by repeat (first | (with_reducible first | exact HB.out | apply below_alloc | apply pw_below_drewN | apply below_drew1) | exact HB.out)) hb); clear HB; have HB := n0_; clear n0_; (try clear hb); (try clear hb2); (try clear hk); (try clear hi)))
      go_roundg k1
      case measure => have := HK1.out; omega
      case rel => exact ⟨(wrap64 (x4_1 + 1)), (by first | rfl | (simp; done) | (simp [*]; done) | (simp [bool_ne_nil]; done) | (simp; exact bool_ne_nil _)), H', ⟨by have := HK1.out; omega⟩, ⟨by repeat (first | (with_reducible first | exact HB.out | apply below_alloc | apply pw_below_drewN | apply below_drew1) | exact HB.out)⟩⟩
     ·rw [if_neg c5] at H
      have c5b0 : (t275 == 0) = false := beq_eq_false_iff_ne.mpr c5
      have c5b1 : (t275 != 0) = true := bne_iff_ne.mpr c5
      simp only [Option.some.injEq, Prod.mk.injEq] at H
      obtain ⟨rfl, rfl⟩ := H
      have p274 : 0 ≤ (x4_1 : Int) := of_decide_eq_true (by first | (with_reducible assumption) | assumption)
      have q274 : x4_1 < (l0.length : Int) := of_decide_eq_true (by first | (with_reducible assumption) | assumption)
      obtain ⟨ad274, e274, hx274_0, hx274_1, hx274_2, hx274_3⟩ := at_T50 HR0.out x4_1 p274 q274
      cases e274
      replace hx274_0 := (HB.out.cell (World.block_lt_of_cell? w _ hx274_0)).trans hx274_0
      replace hx274_1 := (HB.out.cell (World.block_lt_of_cell? w _ hx274_1)).trans hx274_1
      replace hx274_2 := (HB.out.cell (World.block_lt_of_cell? w _ hx274_2)).trans hx274_2
      replace hx274_3 := (HB.out.cell (World.block_lt_of_cell? w _ hx274_3)).trans hx274_3
      replace p274 := eq_true p274
      replace q274 := eq_true q274
      go_wp2_with (first | ((with_reducible refine gate_callee (f := 69) rfl ?_); refine goesL_ (some 17) rfl rfl Tryd.func69 (by kernel_rfl) rfl #[.agg #[.int .i64 ((rd_T50 l0 x4_1).f0), .int .i64 ((rd_T50 l0 x4_1).f1), .float .f64 ((rd_T50 l0 x4_1).f2), .string ((rd_T50 l0 x4_1).f3)]] rfl (by (try simp only [List.map_toArray, List.map_cons, List.map_nil]); first | done | rfl | (simp only [List.length_drop, List.length_take]; rfl)) ?_; (with_reducible refine (vellumref01_Check.calls k1 ((rd_T50 l0 x4_1).f0) ((rd_T50 l0 x4_1).f1) ((rd_T50 l0 x4_1).f2) ((rd_T50 l0 x4_1).f3) t275 _ ?side1 A4.out).mono ?_); (case side1 => exact Glob.below HG.out (by repeat (first | (with_reducible first | exact HB.out | apply below_alloc | apply pw_below_drewN | apply below_drew1) | exact HB.out))); rintro e w7 ⟨rfl, hb⟩; refine ⟨_, rfl, ?_⟩; have n0_ := Aside0.mk (below_step (by repeat (first | (with_reducible first | exact HB.out | apply below_alloc | apply pw_below_drewN | apply below_drew1) | exact HB.out)) hb); clear HB; have HB := n0_; clear n0_; (try clear hb); (try clear hb2); (try clear hk); (try clear hi)))
      go_ret2
      exact ⟨by first | rfl | (simp [errW_none, errW_some] <;> rfl) | (simp [*, errW_none, errW_some] <;> rfl), by repeat (first | (with_reducible first | exact HB.out | apply below_alloc | apply pw_below_drewN | apply below_drew1) | exact HB.out)⟩
    ·rw [if_neg c3] at H
     exact absurd H (by simp)
   ·rw [if_neg c2] at H
    have c2b0 : decide (x4_1 < (l0.length : Int)) = false := decide_eq_false c2
    clear c2
    have H' := Aside0.mk H
    clear H
    go_wp2
    go_loopg [5, 6] k1 (fun kq v5 v6 w' => ∃ (x5_2 : List Int) (x6_2 : Int), v6 = .int .i64 x6_2 ∧ Aside0 (vellumref02_Encode.l1 kq l0 x5_2 x6_2 = some (r1, r2)) ∧ Aside0 (kq ≤ k1) ∧ Aside0 (Kd.R (Kd.int .u8) 5 w' w.heap.size (fun _ => True) v5 x5_2) ∧ Aside0 (Below w.heap.size w w'))
    case atStart => exact ⟨(([] : List Int)), (0), (by first | rfl | (simp; done) | (simp [*]; done) | (simp [bool_ne_nil]; done) | (simp; exact bool_ne_nil _)), H', ⟨Nat.le_refl _⟩, ⟨by first | exact Kd.R_nil _ _ _ _ _ | exact Kd.N_nil _ _ _ _ _ | exact Kd.V_nil _ _ _ _ _ | exact Kd.Q_nil _ _ _ _ _ | exact Kd.S_nil _ _ _ _ _⟩, ⟨by repeat (first | (with_reducible first | exact HB.out | apply below_alloc | apply pw_below_drewN | apply below_drew1) | exact HB.out)⟩⟩
    case round =>
     clear H'
     (try clear c2); (try clear c2b0); (try clear p2); (try clear q2); (try clear hx2); (try clear c3); (try clear c3b0); (try clear c5); (try clear c5b0); (try clear c5b1); (try clear c6); (try clear p6); (try clear hx274_0); (try clear hx274_1); (try clear hx274_2); (try clear hx274_3); (try clear p274); (try clear q274)
     obtain ⟨x5_2, x6_2, rfl, HA, HK2, HO_5, HB⟩ := hrel
     cases gk with
     | zero => exact absurd HA.out (by simp [vellumref02_Encode.l1])
     | succ k2 =>
      have H := HA.out
      clear HA
      simp only [vellumref02_Encode.l1] at H
      by_cases c8 : x6_2 < (l0.length : Int)
      ·rw [if_pos c8] at H
       have c8b0 : decide (x6_2 < (l0.length : Int)) = true := decide_eq_true c8
       clear c8
       by_cases c9 : 0 ≤ x6_2
       ·rw [if_pos c9] at H
        have c9b0 : decide (0 ≤ x6_2) = true := decide_eq_true c9
        clear c9
        replace H := Option.bind_eq_some_iff.mp H
        obtain ⟨t277, A100, H⟩ := H
        replace H : (if x5_2.length + t277.length < 140737488355328 then ((some (x5_2 ++ t277 : List Int)).bind fun y280 => (if (y280.length : Int) > 1024 then (some ((⟨#[]⟩ : ByteArray), 3)) else (vellumref02_Encode.l1 k2 l0 y280 (wrap64 (x6_2 + 1))))) else (none)) = some (r1, r2) := H
        have A10 := Aside0.mk A100
        clear A100
        by_cases c11 : x5_2.length + t277.length < 140737488355328
        ·rw [if_pos c11] at H
         have LMc11 := Aside0.mk c11
         clear c11
         obtain ⟨y280, hy280⟩ : ∃ y_ : List Int, y_ = (x5_2 ++ t277) := ⟨_, rfl⟩
         replace H : (if (y280.length : Int) > 1024 then (some ((⟨#[]⟩ : ByteArray), 3)) else (vellumref02_Encode.l1 k2 l0 y280 (wrap64 (x6_2 + 1)))) = some (r1, r2) := by first | (rw [hy280]; with_reducible exact H) | (have H2_ := (Option.bind_some _ _).symm.trans H; rw [hy280]; with_reducible exact H2_) | (have H2_ := (Option.bind_some _ _).symm.trans H; with_reducible exact H2_) | with_reducible exact H | (rw [hy280]; exact H) | exact H
         have Ny280 := Aside0.mk hy280
         clear hy280
         by_cases c12 : (y280.length : Int) > 1024
         ·rw [if_pos c12] at H
          have c12b0 : decide (1024 < (y280.length : Int)) = true := decide_eq_true c12
          have c12b1 : decide (1024 < y280.length) = true := decide_eq_true (by omega)
          clear c12
          simp only [Option.some.injEq, Prod.mk.injEq] at H
          obtain ⟨rfl, rfl⟩ := H
          have p276 : 0 ≤ (x6_2 : Int) := of_decide_eq_true (by first | (with_reducible assumption) | assumption)
          have q276 : x6_2 < (l0.length : Int) := of_decide_eq_true (by first | (with_reducible assumption) | assumption)
          obtain ⟨ad276, e276, hx276_0, hx276_1, hx276_2, hx276_3⟩ := at_T50 HR0.out x6_2 p276 q276
          cases e276
          replace hx276_0 := (HB.out.cell (World.block_lt_of_cell? w _ hx276_0)).trans hx276_0
          replace hx276_1 := (HB.out.cell (World.block_lt_of_cell? w _ hx276_1)).trans hx276_1
          replace hx276_2 := (HB.out.cell (World.block_lt_of_cell? w _ hx276_2)).trans hx276_2
          replace hx276_3 := (HB.out.cell (World.block_lt_of_cell? w _ hx276_3)).trans hx276_3
          replace p276 := eq_true p276
          replace q276 := eq_true q276
          go_wp2_with (first | ((with_reducible refine gate_callee (f := 70) rfl ?_); refine goesL_ (some 30) rfl rfl Tryd.func70 (by kernel_rfl) rfl #[.agg #[.int .i64 ((rd_T50 l0 x6_2).f0), .int .i64 ((rd_T50 l0 x6_2).f1), .float .f64 ((rd_T50 l0 x6_2).f2), .string ((rd_T50 l0 x6_2).f3)]] rfl (by (try simp only [List.map_toArray, List.map_cons, List.map_nil]); first | done | rfl | (simp only [List.length_drop, List.length_take]; rfl)) ?_; (with_reducible refine (vellumref02_code.calls k2 ((rd_T50 l0 x6_2).f0) ((rd_T50 l0 x6_2).f1) ((rd_T50 l0 x6_2).f2) ((rd_T50 l0 x6_2).f3) t277 _ A10.out).mono ?_); rintro e w13 ⟨v278, rfl, ho0, hb⟩; refine ⟨_, rfl, ?_⟩; have n0_ := Aside0.mk (Kd.R_elder' (by (with_reducible repeat (first | apply Kd.R_alloc | apply Kd.R_drewN | apply Kd.R_drew)); exact HO_5.out) (Kd.R_base ho0) hb); have n1_ := Aside0.mk (Kd.R_lower (Kd.R_new' ho0 (Kd.R_lt (by (with_reducible repeat (first | apply Kd.R_alloc | apply Kd.R_drewN | apply Kd.R_drew)); exact HO_5.out))) (below_size (by repeat (first | (with_reducible first | exact HB.out | apply below_alloc | apply pw_below_drewN | apply below_drew1) | exact HB.out)))); have n2_ := Aside0.mk (below_step (by repeat (first | (with_reducible first | exact HB.out | apply below_alloc | apply pw_below_drewN | apply below_drew1) | exact HB.out)) hb); clear HO_5; clear HB; have HO_5 := n0_; have HO279 := n1_; have HB := n2_; clear n0_ n1_ n2_; (try clear hb); (try clear hb2); (try clear hk); (try clear hi); (try clear ho0); obtain ⟨Ao15, co15, eo15⟩ := Kd.R_slice HO279.out; subst eo15) | ((with_reducible refine gate_builtin (b := .append) (xs := #[.tmp 25, .tmp 30]) rfl ?_); at_builtin; refine Kd.R_append_rows (Kd.int .u8) (w0 := w) w.heap.size rfl (.tmp 25) (.tmp 30) 80 5 (.int .u8 0) 1 rfl Tryd.underlying80 info5 rfl (by decide) (by omega) u5 x5_2 t277 _ _ _ (fun k_ => some k_ ≠ (.slice Ao15 t277.length co15 : Value).ownBlock) (fun _ => False) rfl rfl ?aO ?aR (fun _ _ h => h) (fun _ h => h.elim) ?aF ?aB ?aS ?aL ?_; (case aR => repeat (first | exact (Kd.R_reads' HO279.out).2.2 | (with_reducible refine Kd.C_alloc ?_ _) | (with_reducible refine Kd.C_drewN ?_ _) | (with_reducible refine Kd.C_drew ?_))); (case aB => exact (by repeat (first | (with_reducible first | exact HB.out | apply below_alloc | apply pw_below_drewN | apply below_drew1) | exact HB.out))); (case aF => exact (fun k_ hk => Kd.fresh' (Kd.R_lt (by (with_reducible repeat (first | apply Kd.R_alloc | apply Kd.R_drewN | apply Kd.R_drew)); exact HO279.out)) k_ hk)); (case aO => exact (by (with_reducible repeat (first | apply Kd.R_alloc | apply Kd.R_drewN | apply Kd.R_drew)); exact Kd.R_mono HO_5.out (fun _ hk => hk.2))); (case aS => exact (below_size (by repeat (first | (with_reducible first | exact HB.out | apply below_alloc | apply pw_below_drewN | apply below_drew1) | exact HB.out)))); (case aL => have := LMc11.out; omega); intro v281 w14 ho hb hg hat; rw [← Ny280.out] at ho; have n0_ := Aside0.mk (Kd.R_after (ok := (fun _ => True)) (by (with_reducible repeat (first | apply Kd.R_alloc | apply Kd.R_drewN | apply Kd.R_drew)); exact HO279.out) hg hat); have n1_ := Aside0.mk (hb); have n2_ := Aside0.mk (ho); clear HO279; clear HB; clear HO_5; have HO279 := n0_; have HB := n1_; have HO282 := n2_; clear n0_ n1_ n2_; clear ho hb hg hat; obtain ⟨Ao16, co16, eo16⟩ := Kd.R_slice HO282.out; subst eo16))
          go_ret2
          exact ⟨by first | rfl | (simp [errW_none, errW_some] <;> rfl) | (simp [*, errW_none, errW_some] <;> rfl), by repeat (first | (with_reducible first | exact HB.out | apply below_alloc | apply pw_below_drewN | apply below_drew1) | exact HB.out)⟩
         ·rw [if_neg c12] at H
          have c12b0 : decide (1024 < (y280.length : Int)) = false := decide_eq_false c12
          have c12b1 : decide (1024 < y280.length) = false := decide_eq_false (by omega)
          clear c12
          have H' := Aside0.mk H
          clear H
          have p276 : 0 ≤ (x6_2 : Int) := of_decide_eq_true (by first | (with_reducible assumption) | assumption)
          have q276 : x6_2 < (l0.length : Int) := of_decide_eq_true (by first | (with_reducible assumption) | assumption)
          obtain ⟨ad276, e276, hx276_0, hx276_1, hx276_2, hx276_3⟩ := at_T50 HR0.out x6_2 p276 q276
          cases e276
          replace hx276_0 := (HB.out.cell (World.block_lt_of_cell? w _ hx276_0)).trans hx276_0
          replace hx276_1 := (HB.out.cell (World.block_lt_of_cell? w _ hx276_1)).trans hx276_1
          replace hx276_2 := (HB.out.cell (World.block_lt_of_cell? w _ hx276_2)).trans hx276_2
          replace hx276_3 := (HB.out.cell (World.block_lt_of_cell? w _ hx276_3)).trans hx276_3
          replace p276 := eq_true p276
          replace q276 := eq_true q276
          go_wp2_with (first | ((with_reducible refine gate_callee (f := 70) rfl ?_); refine goesL_ (some 30) rfl rfl Tryd.func70 (by kernel_rfl) rfl #[.agg #[.int .i64 ((rd_T50 l0 x6_2).f0), .int .i64 ((rd_T50 l0 x6_2).f1), .float .f64 ((rd_T50 l0 x6_2).f2), .string ((rd_T50 l0 x6_2).f3)]] rfl (by (try simp only [List.map_toArray, List.map_cons, List.map_nil]); first | done | rfl | (simp only [List.length_drop, List.length_take]; rfl)) ?_; (with_reducible refine (vellumref02_code.calls k2 ((rd_T50 l0 x6_2).f0) ((rd_T50 l0 x6_2).f1) ((rd_T50 l0 x6_2).f2) ((rd_T50 l0 x6_2).f3) t277 _ A10.out).mono ?_); rintro e w17 ⟨v278, rfl, ho0, hb⟩; refine ⟨_, rfl, ?_⟩; have n0_ := Aside0.mk (Kd.R_elder' (by (with_reducible repeat (first | apply Kd.R_alloc | apply Kd.R_drewN | apply Kd.R_drew)); exact HO_5.out) (Kd.R_base ho0) hb); have n1_ := Aside0.mk (Kd.R_lower (Kd.R_new' ho0 (Kd.R_lt (by (with_reducible repeat (first | apply Kd.R_alloc | apply Kd.R_drewN | apply Kd.R_drew)); exact HO_5.out))) (below_size (by repeat (first | (with_reducible first | exact HB.out | apply below_alloc | apply pw_below_drewN | apply below_drew1) | exact HB.out)))); have n2_ := Aside0.mk (below_step (by repeat (first | (with_reducible first | exact HB.out | apply below_alloc | apply pw_below_drewN | apply below_drew1) | exact HB.out)) hb); clear HO_5; clear HB; have HO_5 := n0_; have HO279 := n1_; have HB := n2_; clear n0_ n1_ n2_; (try clear hb); (try clear hb2); (try clear hk); (try clear hi); (try clear ho0); obtain ⟨Ao19, co19, eo19⟩ := Kd.R_slice HO279.out; subst eo19) | ((with_reducible refine gate_builtin (b := .append) (xs := #[.tmp 25, .tmp 30]) rfl ?_); at_builtin; refine Kd.R_append_rows (Kd.int .u8) (w0 := w) w.heap.size rfl (.tmp 25) (.tmp 30) 80 5 (.int .u8 0) 1 rfl Tryd.underlying80 info5 rfl (by decide) (by omega) u5 x5_2 t277 _ _ _ (fun k_ => some k_ ≠ (.slice Ao19 t277.length co19 : Value).ownBlock) (fun _ => False) rfl rfl ?aO ?aR (fun _ _ h => h) (fun _ h => h.elim) ?aF ?aB ?aS ?aL ?_; (case aR => repeat (first | exact (Kd.R_reads' HO279.out).2.2 | (with_reducible refine Kd.C_alloc ?_ _) | (with_reducible refine Kd.C_drewN ?_ _) | (with_reducible refine Kd.C_drew ?_))); (case aB => exact (by repeat (first | (with_reducible first | exact HB.out | apply below_alloc | apply pw_below_drewN | apply below_drew1) | exact HB.out))); (case aF => exact (fun k_ hk => Kd.fresh' (Kd.R_lt (by (with_reducible repeat (first | apply Kd.R_alloc | apply Kd.R_drewN | apply Kd.R_drew)); exact HO279.out)) k_ hk)); (case aO => exact (by (with_reducible repeat (first | apply Kd.R_alloc | apply Kd.R_drewN | apply Kd.R_drew)); exact Kd.R_mono HO_5.out (fun _ hk => hk.2))); (case aS => exact (below_size (by repeat (first | (with_reducible first | exact HB.out | apply below_alloc | apply pw_below_drewN | apply below_drew1) | exact HB.out)))); (case aL => have := LMc11.out; omega); intro v281 w18 ho hb hg hat; rw [← Ny280.out] at ho; have n0_ := Aside0.mk (Kd.R_after (ok := (fun _ => True)) (by (with_reducible repeat (first | apply Kd.R_alloc | apply Kd.R_drewN | apply Kd.R_drew)); exact HO279.out) hg hat); have n1_ := Aside0.mk (hb); have n2_ := Aside0.mk (ho); clear HO279; clear HB; clear HO_5; have HO279 := n0_; have HB := n1_; have HO282 := n2_; clear n0_ n1_ n2_; clear ho hb hg hat; obtain ⟨Ao20, co20, eo20⟩ := Kd.R_slice HO282.out; subst eo20))
          go_roundg k2
          case measure => have := HK1.out; have := HK2.out; omega
          case rel => exact ⟨(y280), (wrap64 (x6_2 + 1)), (by first | rfl | (simp; done) | (simp [*]; done) | (simp [bool_ne_nil]; done) | (simp; exact bool_ne_nil _)), H', ⟨by have := HK1.out; have := HK2.out; omega⟩, ⟨by (with_reducible repeat (first | apply Kd.R_alloc | apply Kd.R_drewN | apply Kd.R_drew)); exact Kd.R_mono HO282.out (fun _ hk => trivial)⟩, ⟨by repeat (first | (with_reducible first | exact HB.out | apply below_alloc | apply pw_below_drewN | apply below_drew1) | exact HB.out)⟩⟩
        ·rw [if_neg c11] at H
         exact absurd H (by simp)
       ·rw [if_neg c9] at H
        exact absurd H (by simp)
      ·rw [if_neg c8] at H
       have c8b0 : decide (x6_2 < (l0.length : Int)) = false := decide_eq_false c8
       clear c8
       simp only [Option.some.injEq, Prod.mk.injEq] at H
       obtain ⟨rfl, rfl⟩ := H
       have hcv21 := own_string (P := Tryd.prog) Tryd.underlying80 Tryd.underlying5 Tryd.underlying9 (Kd.own_of_R HO_5.out)
       go_wp2
       go_ret2
       exact ⟨by first | rfl | (simp [errW_none, errW_some] <;> rfl) | (simp [*, errW_none, errW_some] <;> rfl), by repeat (first | (with_reducible first | exact HB.out | apply below_alloc | apply pw_below_drewN | apply below_drew1) | exact HB.out)⟩
def vellumlaw02_awake.f (k : Nat)  : Option (Bool) := (code_Encode.f k (([(⟨2, 1, 0, (⟨#[]⟩ : ByteArray)⟩ : S50)] : List (S50)))).bind fun bt286 => (if bt286.2 = 0 then (some (bt286.1.toList == ([3, 129, 1] : List UInt8))) else (some false))
set_option maxHeartbeats 8000000 in
set_option maxRecDepth 100000 in
theorem vellumlaw02_awake.calls (k : Nat)  (r : Bool) (w : World) (hG : Glob w) (h : vellumlaw02_awake.f k  = some r) :
  Calls Tryd.prog 23 #[] w fun e w' => e = .returned (.bool r) ∧ Below w.heap.size w w' := by
 have hu50 := Tryd.underlying50
 have HG := Aside0.mk hG
 clear hG
 have HB := Aside0.mk (Below.refl w.heap.size w)
 have H : ((code_Encode.f k (([(⟨2, 1, 0, (⟨#[]⟩ : ByteArray)⟩ : S50)] : List (S50)))).bind fun bt286 => (if bt286.2 = 0 then (some (bt286.1.toList == ([3, 129, 1] : List UInt8))) else (some false))) = some r := h
 clear h
 obtain ⟨y283, hy283⟩ : ∃ y_ : List (S50), y_ = (([(⟨2, 1, 0, (⟨#[]⟩ : ByteArray)⟩ : S50)] : List (S50))) := ⟨_, rfl⟩
 replace H : ((code_Encode.f k y283).bind fun bt286 => (if bt286.2 = 0 then (some (bt286.1.toList == ([3, 129, 1] : List UInt8))) else (some false))) = some r := by first | (rw [hy283]; with_reducible exact H) | (have H2_ := (Option.bind_some _ _).symm.trans H; rw [hy283]; with_reducible exact H2_) | (have H2_ := (Option.bind_some _ _).symm.trans H; with_reducible exact H2_) | with_reducible exact H | (rw [hy283]; exact H) | exact H
 have Ny283 := Aside0.mk hy283
 clear hy283
 replace H := Option.bind_eq_some_iff.mp H
 obtain ⟨⟨t286, t287⟩, A10, H⟩ := H
 replace H : (if t287 = 0 then (some (t286.toList == ([3, 129, 1] : List UInt8))) else (some false)) = some r := H
 have A1 := Aside0.mk A10
 clear A10
 by_cases c2 : t287 = 0
 ·rw [if_pos c2] at H
  have c2b0 : (t287 == 0) = true := beq_iff_eq.mpr c2
  have c2b1 : (t287 != 0) = false := bne_eq_false_iff_eq.mpr c2
  clear c2
  obtain rfl := Option.some.inj H
  go_enter Tryd.func23, Tryd.ntmps23
  go_wp2_with (first | ((with_reducible refine gate_dst (N := 5) rfl ?_); refine Kd.R_lit k50 _ 50 ?hg (N := 5) ?hd (xs := ([(⟨2, 1, 0, (⟨#[]⟩ : ByteArray)⟩ : S50)] : List (S50))) (inner := [.int .i64 2, .int .i64 1, .float .f64 0, .string (⟨#[]⟩ : ByteArray)]) (ok := fun _ => True) (okp := fun _ => True) ?hr ?hp (fun _ hk => hk) trivial (Below.refl _ _) (Nat.le_refl _) (by simp) ?_; (case hd => rfl); (case hg => rfl); (case hr => first | (go_simp; done) | (go_simp; rfl)); (case hp => exact (Reps.c4 (show Kd.M k50 _ _ _ (⟨2, 1, 0, (⟨#[]⟩ : ByteArray)⟩ : S50) [.int .i64 2, .int .i64 1, .float .f64 0, .string (⟨#[]⟩ : ByteArray)] from (k50_mkM _ _ _ (⟨2, 1, 0, (⟨#[]⟩ : ByteArray)⟩ : S50) )) (Reps.none _ _))); intro v284 w3 ho4 hb hg_ hnew_; clear hg_ hnew_; (first | rw [← Ny283.out] at ho4 | (simp only [Int.reduceToNat] at ho4; rw [← Ny283.out] at ho4)); have n0_ := Aside0.mk (Kd.R_lower ho4 (below_size (by repeat (first | (with_reducible first | exact HB.out | apply below_alloc | apply pw_below_drewN | apply below_drew1) | exact HB.out)))); have n1_ := Aside0.mk (below_step (by repeat (first | (with_reducible first | exact HB.out | apply below_alloc | apply pw_below_drewN | apply below_drew1) | exact HB.out)) hb); clear HB; have HO285 := n0_; have HB := n1_; clear n0_ n1_; clear hb ho4; obtain ⟨Ao5, co5, eo5⟩ := Kd.R_slice HO285.out; subst eo5) | ((with_reducible refine gate_callee (f := 21) rfl ?_); refine goesL_ (some 6) rfl rfl Tryd.func21 (by kernel_rfl) rfl #[.slice Ao5 y283.length co5] rfl (by (try simp only [List.map_toArray, List.map_cons, List.map_nil]); first | done | rfl | (simp only [List.length_drop, List.length_take]; rfl)) ?_; (with_reducible refine (code_Encode.calls k _ _ y283 t286 t287 _ ?side1 ?side2 ?side3 A1.out).mono ?_); (case side1 => repeat (first | exact (Kd.R_reads' HO285.out).2.2 | (with_reducible refine Kd.C_alloc ?_ _) | (with_reducible refine Kd.C_drewN ?_ _) | (with_reducible refine Kd.C_drew ?_))); (case side2 => exact (Kd.R_reads' HO285.out).2.1); (case side3 => exact Glob.below HG.out (by repeat (first | (with_reducible first | exact HB.out | apply below_alloc | apply pw_below_drewN | apply below_drew1) | exact HB.out))); rintro e w6 ⟨rfl, hb⟩; refine ⟨_, rfl, ?_⟩; have n0_ := Aside0.mk (Kd.R_below (by (with_reducible repeat (first | apply Kd.R_alloc | apply Kd.R_drewN | apply Kd.R_drew)); exact HO285.out) hb); have n1_ := Aside0.mk (below_step (by repeat (first | (with_reducible first | exact HB.out | apply below_alloc | apply pw_below_drewN | apply below_drew1) | exact HB.out)) hb); clear HO285; clear HB; have HO285 := n0_; have HB := n1_; clear n0_ n1_; (try clear hb); (try clear hb2); (try clear hk); (try clear hi)))
  go_ret
  exact ⟨by first | rfl | (simp [errW_none, errW_some] <;> rfl) | (simp [*, errW_none, errW_some] <;> rfl), by repeat (first | (with_reducible first | exact HB.out | apply below_alloc | apply pw_below_drewN | apply below_drew1) | exact HB.out)⟩
 ·rw [if_neg c2] at H
  have c2b0 : (t287 == 0) = false := beq_eq_false_iff_ne.mpr c2
  have c2b1 : (t287 != 0) = true := bne_iff_ne.mpr c2
  obtain rfl := Option.some.inj H
  go_enter Tryd.func23, Tryd.ntmps23
  go_wp2_with (first | ((with_reducible refine gate_dst (N := 5) rfl ?_); refine Kd.R_lit k50 _ 50 ?hg (N := 5) ?hd (xs := ([(⟨2, 1, 0, (⟨#[]⟩ : ByteArray)⟩ : S50)] : List (S50))) (inner := [.int .i64 2, .int .i64 1, .float .f64 0, .string (⟨#[]⟩ : ByteArray)]) (ok := fun _ => True) (okp := fun _ => True) ?hr ?hp (fun _ hk => hk) trivial (Below.refl _ _) (Nat.le_refl _) (by simp) ?_; (case hd => rfl); (case hg => rfl); (case hr => first | (go_simp; done) | (go_simp; rfl)); (case hp => exact (Reps.c4 (show Kd.M k50 _ _ _ (⟨2, 1, 0, (⟨#[]⟩ : ByteArray)⟩ : S50) [.int .i64 2, .int .i64 1, .float .f64 0, .string (⟨#[]⟩ : ByteArray)] from (k50_mkM _ _ _ (⟨2, 1, 0, (⟨#[]⟩ : ByteArray)⟩ : S50) )) (Reps.none _ _))); intro v284 w7 ho8 hb hg_ hnew_; clear hg_ hnew_; (first | rw [← Ny283.out] at ho8 | (simp only [Int.reduceToNat] at ho8; rw [← Ny283.out] at ho8)); have n0_ := Aside0.mk (Kd.R_lower ho8 (below_size (by repeat (first | (with_reducible first | exact HB.out | apply below_alloc | apply pw_below_drewN | apply below_drew1) | exact HB.out)))); have n1_ := Aside0.mk (below_step (by repeat (first | (with_reducible first | exact HB.out | apply below_alloc | apply pw_below_drewN | apply below_drew1) | exact HB.out)) hb); clear HB; have HO285 := n0_; have HB := n1_; clear n0_ n1_; clear hb ho8; obtain ⟨Ao9, co9, eo9⟩ := Kd.R_slice HO285.out; subst eo9) | ((with_reducible refine gate_callee (f := 21) rfl ?_); refine goesL_ (some 6) rfl rfl Tryd.func21 (by kernel_rfl) rfl #[.slice Ao9 y283.length co9] rfl (by (try simp only [List.map_toArray, List.map_cons, List.map_nil]); first | done | rfl | (simp only [List.length_drop, List.length_take]; rfl)) ?_; (with_reducible refine (code_Encode.calls k _ _ y283 t286 t287 _ ?side1 ?side2 ?side3 A1.out).mono ?_); (case side1 => repeat (first | exact (Kd.R_reads' HO285.out).2.2 | (with_reducible refine Kd.C_alloc ?_ _) | (with_reducible refine Kd.C_drewN ?_ _) | (with_reducible refine Kd.C_drew ?_))); (case side2 => exact (Kd.R_reads' HO285.out).2.1); (case side3 => exact Glob.below HG.out (by repeat (first | (with_reducible first | exact HB.out | apply below_alloc | apply pw_below_drewN | apply below_drew1) | exact HB.out))); rintro e w10 ⟨rfl, hb⟩; refine ⟨_, rfl, ?_⟩; have n0_ := Aside0.mk (Kd.R_below (by (with_reducible repeat (first | apply Kd.R_alloc | apply Kd.R_drewN | apply Kd.R_drew)); exact HO285.out) hb); have n1_ := Aside0.mk (below_step (by repeat (first | (with_reducible first | exact HB.out | apply below_alloc | apply pw_below_drewN | apply below_drew1) | exact HB.out)) hb); clear HO285; clear HB; have HO285 := n0_; have HB := n1_; clear n0_ n1_; (try clear hb); (try clear hb2); (try clear hk); (try clear hi)))
  go_ret
  exact ⟨by first | rfl | (simp [errW_none, errW_some] <;> rfl) | (simp [*, errW_none, errW_some] <;> rfl), by repeat (first | (with_reducible first | exact HB.out | apply below_alloc | apply pw_below_drewN | apply below_drew1) | exact HB.out)⟩
end Go.Proofs.YtpiifdbicibelaaDoor.PA
end
section
namespace Go.Proofs.YtpiifdbicibelaaDoor.Pure
open Go.RowKit Go.Proofs Go.Proofs.YtpiifdbicibelaaDoorW.PrintWords Go.Proofs.YtpiifdbicibelaaDoorW.PrintLast Go.Proofs.YtpiifdbicibelaaDoorW.PrintMore Go.Proofs.YtpiifdbicibelaaDoor.PA Go.Proofs.YtpiifdbicibelaaDoor.OpenK
set_option linter.unusedVariables false
def Ev {α : Type} (f : Nat → Option α) (v : α) : Prop := ∃ k0, ∀ k, k0 ≤ k → f k = some v
namespace Ev
variable {α β : Type} {f g : Nat → Option α} {v : α}
theorem pure {v : α} : Ev (fun _ => some v) v := ⟨0, fun _ _ => rfl⟩
theorem const {o : Option α} (h : o = some v) : Ev (fun _ => o) v := ⟨0, fun _ _ => h⟩
theorem bind {F : Nat → α → Option β} {b : β} (h : Ev f v) (h2 : Ev (fun k => F k v) b) : Ev (fun k => (f k).bind (F k)) b := by
  obtain ⟨k0, h⟩ := h
  obtain ⟨k1, h2⟩ := h2
  exact ⟨max k0 k1, fun k hk => by show (f k).bind (F k) = some b; rw [h k (by omega)]; exact h2 k (by omega)⟩
theorem step (h : ∀ k, f (k + 1) = g k) (hg : Ev g v) : Ev f v := by
  obtain ⟨k0, hg⟩ := hg
  refine ⟨k0 + 1, fun k hk => ?_⟩
  obtain ⟨j, rfl⟩ : ∃ j, k = j + 1 := ⟨k - 1, by omega⟩
  rw [h]; exact hg j (by omega)
theorem from_ (n : Nat) (h : ∀ k, f (k + n) = some v) : Ev f v := ⟨n, fun k hk => by have := h (k - n); rwa [Nat.sub_add_cancel hk] at this⟩
theorem congr (h : ∀ k, f k = g k) (hg : Ev g v) : Ev f v := by obtain ⟨k0, hg⟩ := hg; exact ⟨k0, fun k hk => by rw [h]; exact hg k hk⟩
theorem pos {c : Prop} [Decidable c] (hc : c) (h : Ev f v) : Ev (fun k => if c then f k else g k) v := congr (fun k => if_pos hc) h
theorem neg {c : Prop} [Decidable c] (hc : ¬ c) (h : Ev g v) : Ev (fun k => if c then f k else g k) v := congr (fun k => if_neg hc) h
theorem ex (h : Ev f v) : ∃ k, f k = some v := by obtain ⟨k0, h⟩ := h; exact ⟨k0, h k0 (Nat.le_refl _)⟩
end Ev
theorem wrap64_id {n : Int} (h0 : -9223372036854775808 ≤ n) (h1 : n < 9223372036854775808) : wrap64 n = n := by unfold wrap64; omega
theorem u64_wrap (n : Int) : IntKind.u64.wrap n = n % 18446744073709551616 := by
  simp [IntKind.wrap, IntKind.signed, IntKind.bits]
theorem u64_wrap_id {n : Int} (h0 : 0 ≤ n) (h1 : n < 18446744073709551616) : IntKind.u64.wrap n = n := by rw [u64_wrap]; omega
def be (u : Int) : Nat → List Int
  | 0 => []
  | n + 1 => (u / 256 ^ n) % 256 :: be u n
theorem be_length (u : Int) : ∀ n, (be u n).length = n
  | 0 => rfl
  | n + 1 => by simp [be, be_length u n]
def nb (u : Nat) : Nat := if h : u = 0 then 0 else 1 + nb (u / 256)
decreasing_by omega
theorem nb_le (n : Nat) : ∀ u, u < 256 ^ n → nb u ≤ n := by
  induction n with
  | zero => intro u h; simp at h; subst h; unfold nb; simp
  | succ n ih =>
    intro u h
    unfold nb
    split
    · omega
    · have := ih (u / 256) (by rw [Nat.pow_succ] at h; omega)
      omega
theorem nb_pos {u : Nat} (h : u ≠ 0) : 1 ≤ nb u := by unfold nb; rw [dif_neg h]; omega
theorem pow256 : ∀ n : Nat, (2 : Int) ^ (8 * n) = 256 ^ n
  | 0 => rfl
  | n + 1 => by rw [Nat.mul_add, Int.pow_add, pow256 n]; rfl
theorem shr_be {u : Int} {n : Nat} (hn : n < 8) : (shr .u64 u (8 * (n : Int))) = u / 256 ^ n := by
  unfold shr
  have e : min (8 * (n : Int)).toNat IntKind.u64.bits = 8 * n := by
    have : IntKind.u64.bits = 64 := rfl
    omega
  rw [e, pow256]
theorem high_l0 (u : Int) : ∀ (n : Nat) (l : List Int), n ≤ 8 → l.length + 8 < 140737488355328 → Ev (fun k => code_high.l0 k l u ((n : Int) - 1)) (l ++ be u n) := by
  have go : ∀ (n : Nat) (l : List Int), n ≤ 8 → l.length + n < 140737488355328 → Ev (fun k => code_high.l0 k l u ((n : Int) - 1)) (l ++ be u n) := by
    intro n
    induction n with
    | zero =>
      intro l _ _
      refine Ev.from_ 1 fun k => ?_
      simp [code_high.l0, be]
    | succ n ih =>
      intro l hn hl
      have e : ((n + 1 : Nat) : Int) - 1 = n := by omega
      rw [e]
      refine Ev.step (g := fun k => code_high.l0 k (l ++ [u / 256 ^ n % 256]) u ((n : Int) - 1)) (fun k => ?_) ?_
      · simp only [code_high.l0]
        rw [if_pos (by omega), wrap64_id (n := 8 * (n : Int)) (by omega) (by omega), if_pos (by omega), if_pos (by omega), shr_be (by omega), wrap64_id (by omega) (by omega)]
      · have := ih (l ++ [u / 256 ^ n % 256]) (by omega) (by simp; omega)
        simpa [be] using this
  exact fun n l hn hl => go n l hn (by omega)
theorem high_ev (u : Int) (n : Nat) (l : List Int) (hn : n ≤ 8) (hl : l.length + 8 < 140737488355328) : Ev (fun k => code_high.f k l u n) (l ++ be u n) := by
  refine Ev.congr (fun k => ?_) (high_l0 u n l hn hl)
  unfold code_high.f
  rw [wrap64_id (by omega) (by omega)]
theorem big_ev (u : Int) (n : Nat) (hn : n ≤ 8) : Ev (fun k => vellumref02_big.f k u n) (be u n) := by
  have go : ∀ (n : Nat) (l : List Int), n ≤ 8 → l.length + n < 140737488355328 → Ev (fun k => vellumref02_big.l0 k u l ((n : Int) - 1)) (l ++ be u n) := by
    intro n
    induction n with
    | zero =>
      intro l _ _
      refine Ev.from_ 1 fun k => ?_
      simp [vellumref02_big.l0, be]
    | succ n ih =>
      intro l hn hl
      have e : ((n + 1 : Nat) : Int) - 1 = n := by omega
      rw [e]
      refine Ev.step (g := fun k => vellumref02_big.l0 k u (l ++ [u / 256 ^ n % 256]) ((n : Int) - 1)) (fun k => ?_) ?_
      · simp only [vellumref02_big.l0]
        rw [if_pos (by omega), wrap64_id (n := 8 * (n : Int)) (by omega) (by omega), u64_wrap_id (n := 8 * (n : Int)) (by omega) (by omega), if_pos (by omega), if_pos (by omega), shr_be (by omega), wrap64_id (by omega) (by omega)]
      · have := ih (l ++ [u / 256 ^ n % 256]) (by omega) (by simp; omega)
        simpa [be] using this
  refine Ev.congr (fun k => ?_) (go n [] hn (by simp; omega))
  unfold vellumref02_big.f
  rw [wrap64_id (by omega) (by omega)]
theorem size_ref (u : Nat) (hu : u < 18446744073709551616) : Ev (fun k => vellumref02_size.f k (u : Int)) (nb u : Int) := by
  have go : ∀ (m u n : Nat), u < 256 ^ m → n + m ≤ 8 → Ev (fun k => vellumref02_size.l0 k (u : Int) (n : Int)) ((n + nb u : Nat) : Int) := by
    intro m
    induction m with
    | zero =>
      intro u n h _
      obtain rfl : u = 0 := by simpa using h
      refine Ev.from_ 1 fun k => ?_
      unfold nb
      simp [vellumref02_size.l0]
    | succ m ih =>
      intro u n h hn
      by_cases h0 : u = 0
      · subst h0
        refine Ev.from_ 1 fun k => ?_
        unfold nb
        simp [vellumref02_size.l0]
      · refine Ev.step (g := fun k => vellumref02_size.l0 k ((u / 256 : Nat) : Int) ((n + 1 : Nat) : Int)) (fun k => ?_) ?_
        · simp only [vellumref02_size.l0]
          rw [if_pos (by omega), wrap64_id (by omega) (by omega)]
          rfl
        · have := ih (u / 256) (n + 1) (by rw [Nat.pow_succ] at h; omega) (by omega)
          have e : nb u = 1 + nb (u / 256) := by rw [nb, dif_neg h0]
          rw [e]
          have e2 : n + (1 + nb (u / 256)) = n + 1 + nb (u / 256) := by omega
          rw [e2]
          exact this
  have := go 8 u 0 (by simpa using hu) (by omega)
  simpa [vellumref02_size.f] using this
theorem bitLen_nb (u : Nat) (hu : u < 18446744073709551616) : (Lib.bitLen u + 7) / 8 = nb u := by
  have aux : ∀ (m f u : Nat), u < 256 ^ m → 8 * m ≤ f → (Lib.bitLenAux f u + 7) / 8 = nb u := by
    intro m
    induction m with
    | zero =>
      intro f u h _
      obtain rfl : u = 0 := by simpa using h
      unfold nb
      cases f <;> simp [Lib.bitLenAux]
    | succ m ih =>
      intro f u h hf
      by_cases h0 : u = 0
      · subst h0
        unfold nb
        cases f <;> simp [Lib.bitLenAux]
      · rw [nb, dif_neg h0]
        have hlt : u / 256 < 256 ^ m := by rw [Nat.pow_succ] at h; omega
        obtain ⟨f, rfl⟩ : ∃ g, f = g + 8 := ⟨f - 8, by omega⟩
        have := ih f (u / 256) hlt (by omega)
        have z : ∀ g, Lib.bitLenAux g 0 = 0 := fun g => by cases g <;> simp [Lib.bitLenAux]
        have st : ∀ g x, x ≠ 0 → Lib.bitLenAux (g + 1) x = 1 + Lib.bitLenAux g (x / 2) := fun g x hx => by simp [Lib.bitLenAux, hx]
        by_cases h8 : u / 256 = 0
        · rw [h8, z] at this
          have hb : 1 ≤ Lib.bitLenAux (f + 8) u ∧ Lib.bitLenAux (f + 8) u ≤ 8 := by
            have step : ∀ (j g x : Nat), x < 2 ^ j → Lib.bitLenAux (g + j) x ≤ j := by
              intro j
              induction j with
              | zero => intro g x hx; obtain rfl : x = 0 := by simpa using hx
                        rw [z]; omega
              | succ j ihj =>
                intro g x hx
                by_cases hx0 : x = 0
                · subst hx0; rw [z]; omega
                · rw [← Nat.add_assoc, st _ _ hx0]
                  have := ihj g (x / 2) (by rw [Nat.pow_succ] at hx; omega)
                  omega
            refine ⟨?_, step 8 f u (by omega)⟩
            rw [st _ _ h0]; omega
          have hnb : nb (u / 256) = 0 := by rw [h8]; unfold nb; simp
          rw [hnb]
          omega
        · have e : Lib.bitLenAux (f + 8) u = 8 + Lib.bitLenAux f (u / 256) := by
            rw [st (f + 7) u h0, st (f + 6) (u / 2) (by omega), st (f + 5) (u / 2 / 2) (by omega), st (f + 4) (u / 2 / 2 / 2) (by omega), st (f + 3) (u / 2 / 2 / 2 / 2) (by omega),
              st (f + 2) (u / 2 / 2 / 2 / 2 / 2) (by omega), st (f + 1) (u / 2 / 2 / 2 / 2 / 2 / 2) (by omega), st f (u / 2 / 2 / 2 / 2 / 2 / 2 / 2) (by omega)]
            have : u / 2 / 2 / 2 / 2 / 2 / 2 / 2 / 2 = u / 256 := by omega
            rw [this]; omega
          rw [e]; omega
  exact aux 8 64 u (by simpa using hu) (by omega)
theorem size_code (u : Nat) (hu : u < 18446744073709551616) : code_size.f (u : Int) = some (nb u : Int) := by
  unfold code_size.f bits_Len64.f
  rw [if_pos (by omega)]
  have h64 : Lib.bitLen u ≤ 64 := by
    have := bitLen_nb u hu
    have := nb_le 8 u (by simpa using hu)
    omega
  simp only [Option.bind_some, Int.toNat_natCast]
  rw [wrap64_id (n := (Lib.bitLen u : Int) + 7) (by omega) (by omega)]
  have e : Int.tdiv ((Lib.bitLen u : Int) + 7) 8 = (nb u : Int) := by
    rw [← bitLen_nb u hu, Int.tdiv_eq_ediv_of_nonneg (by omega)]
    omega
  have := nb_le 8 u (by simpa using hu)
  rw [e, wrap64_id (by omega) (by omega)]
theorem not64_eq (x : Int) (h0 : 0 ≤ x) (h1 : x < 18446744073709551616) : not64 x = 18446744073709551615 - x := by
  have e : not64 x = IntKind.u64.wrap (((BitVec.ofInt 64 18446744073709551615) ^^^ (BitVec.ofInt 64 x)).toNat : Int) := rfl
  have e1 : BitVec.ofInt 64 18446744073709551615 = BitVec.allOnes 64 := by decide
  have e2 : (BitVec.allOnes 64 ^^^ BitVec.ofInt 64 x) = ~~~ (BitVec.ofInt 64 x) := BitVec.allOnes_xor
  rw [e, e1]
  rw [e2, BitVec.toNat_not, BitVec.toNat_ofInt, u64_wrap]
  have : x % ((2 ^ 64 : Nat) : Int) = x := by omega
  rw [this]
  omega
theorem or_top (x : Int) (h0 : 0 ≤ x) (h1 : x < 9223372036854775808) : Go.bits .or .u64 x 9223372036854775808 = x + 9223372036854775808 := by
  have : Go.bits .or .u64 x 9223372036854775808 = IntKind.u64.wrap (((BitVec.ofInt 64 x) ||| (BitVec.ofInt 64 9223372036854775808)).toNat : Int) := rfl
  rw [this, BitVec.toNat_or, BitVec.toNat_ofInt, BitVec.toNat_ofInt, u64_wrap]
  have e1 : (x % ((2 ^ 64 : Nat) : Int)).toNat = x.toNat := by omega
  have e2 : ((9223372036854775808 : Int) % ((2 ^ 64 : Nat) : Int)).toNat = 2 ^ 63 * 1 := by decide
  rw [e1, e2, Nat.or_comm, ← Nat.two_pow_add_eq_or_of_lt (by omega)]
  omega
theorem xor_top (x : Int) (h0 : 0 ≤ x) (h1 : x < 9223372036854775808) : Go.bits .xor .u64 x 9223372036854775808 = x + 9223372036854775808 := by
  rw [← or_top x h0 h1]
  have e1 : Go.bits .xor .u64 x 9223372036854775808 = IntKind.u64.wrap (((BitVec.ofInt 64 x) ^^^ (BitVec.ofInt 64 9223372036854775808)).toNat : Int) := rfl
  have e2 : Go.bits .or .u64 x 9223372036854775808 = IntKind.u64.wrap (((BitVec.ofInt 64 x) ||| (BitVec.ofInt 64 9223372036854775808)).toNat : Int) := rfl
  rw [e1, e2]
  have e3 : ((9223372036854775808 : Int) % ((2 ^ 64 : Nat) : Int)).toNat = 2 ^ 63 := by decide
  have e4 : (x % ((2 ^ 64 : Nat) : Int)).toNat = x.toNat := by omega
  rw [BitVec.toNat_or, BitVec.toNat_xor, BitVec.toNat_ofInt, BitVec.toNat_ofInt, e3, e4]
  congr 2
  apply Nat.eq_of_testBit_eq
  intro i
  rw [Nat.testBit_xor, Nat.testBit_or, Nat.testBit_two_pow]
  by_cases h : 63 = i
  · subst h
    have : x.toNat.testBit 63 = false := Nat.testBit_lt_two_pow (by omega)
    rw [this]; rfl
  · simp [h]
def chk (a b : Int) (c : Nat) (d : ByteArray) : Int :=
  if a < 0 ∨ 5 < a ∨ (a = 1 ∧ b ≠ 0 ∧ b ≠ 1) ∨ (a ≠ 1 ∧ a ≠ 2 ∧ b ≠ 0) ∨ (a ≠ 3 ∧ c ≠ 0) ∨ (a ≠ 4 ∧ a ≠ 5 ∧ d.toList ≠ []) ∨ (a = 4 ∧ Lib.validD d.data.toList = false) then 10
  else if (d.size : Int) > 65536 then 3 else 0
theorem nat_int_zero (c : Nat) : (((c : Nat) : Int) != 0) = decide (c ≠ 0) := by
  by_cases h : c = 0 <;> simp [h]
theorem valid_f (d : ByteArray) (h : d.size ≤ 140737488351232) : utf8_ValidString.f d = some (Lib.validD d.data.toList) := by
  unfold utf8_ValidString.f; rw [if_pos (by omega)]
theorem check_code (k : Nat) (a b : Int) (c : Nat) (d : ByteArray) (h : d.size ≤ 140737488351232) : value_Check.f (k + 6) a b c d = some (chk a b c d) := by
  have hc := nat_int_zero c
  have hv := valid_f d h
  unfold value_Check.f chk
  simp only [value_Check.j0, value_Check.j1, value_Check.j2, value_Check.j3, value_Check.j4, value_Check.j5, hv, hc, Option.bind_some]
  by_cases h1 : a < 0 <;> by_cases h2 : 5 < a <;> by_cases h3 : a = 1 <;> by_cases h4 : a = 2 <;> by_cases h5 : a = 3 <;> by_cases h6 : a = 4 <;> by_cases h7 : a = 5 <;>
    first
    | (exfalso; omega)
    | (by_cases hb : b = 0 <;> by_cases hb1 : b = 1 <;> by_cases hc0 : c = 0 <;> by_cases hd : d.toList = [] <;> by_cases hV : Lib.validD d.data.toList = true <;> simp_all <;> (try (split <;> rfl)) <;> (try (obtain rfl : a = 0 := by omega) <;> simp <;> split <;> rfl))
theorem check_ref (k : Nat) (a b : Int) (c : Nat) (d : ByteArray) (h : d.size ≤ 140737488351232) : vellumref01_Check.f (k + 6) a b c d = some (chk a b c d) := by
  have hc := nat_int_zero c
  have hv := valid_f d h
  unfold vellumref01_Check.f chk
  simp only [vellumref01_Check.j0, vellumref01_Check.j1, vellumref01_Check.j2, vellumref01_Check.j3, vellumref01_Check.j4, hv, hc, Option.bind_some]
  by_cases h1 : a < 0 <;> by_cases h2 : 5 < a <;> by_cases h3 : a = 1 <;> by_cases h4 : a = 2 <;> by_cases h5 : a = 3 <;> by_cases h6 : a = 4 <;> by_cases h7 : a = 5 <;>
    first
    | (exfalso; omega)
    | (by_cases hb : b = 0 <;> by_cases hb1 : b = 1 <;> by_cases hc0 : c = 0 <;> by_cases hd : d.toList = [] <;> by_cases hV : Lib.validD d.data.toList = true <;> simp_all <;> (try (split <;> rfl)) <;> (try (obtain rfl : a = 0 := by omega) <;> simp <;> split <;> rfl))
def codeInt (n : Int) : List Int :=
  if 0 ≤ n then (128 + (nb n.toNat : Int)) :: be n (nb n.toNat)
  else (128 - (max (nb (-(n + 1)).toNat) 1 : Nat) : Int) :: be (18446744073709551615 - -(n + 1)) (max (nb (-(n + 1)).toNat) 1)
def codeBits (b : Nat) : List Int := if b < 9223372036854775808 then be ((b : Int) + 9223372036854775808) 8 else be (18446744073709551615 - (b : Int)) 8
def plainF (b : Nat) : Nat := if feq b 0 = true then 0 else if feq b b = true then b else 9221120237041090560
def codeText : List UInt8 → List Int
  | [] => [0]
  | b :: l => if b = 0 then 0 :: 255 :: codeText l else (b.toNat : Int) :: codeText l
theorem codeText_length : ∀ l : List UInt8, (codeText l).length ≤ 2 * l.length + 1
  | [] => by simp [codeText]
  | b :: l => by
    have := codeText_length l
    simp only [codeText]
    split <;> simp <;> omega
theorem isInt_range {n : Int} (h : (Lit.int .i64 n).wf = true) : -9223372036854775808 ≤ n ∧ n ≤ 9223372036854775807 := by
  simpa [Lit.wf, IntKind.min, IntKind.max, IntKind.signed, IntKind.bits] using h
theorem putInt_ev (l : List Int) (n : Int) (hn : (Lit.int .i64 n).wf = true) (hl : l.length + 10 < 140737488355328) : Ev (fun k => code_putInt.f k l n) (l ++ codeInt n) := by
  obtain ⟨h0, h1⟩ := isInt_range hn
  unfold codeInt
  by_cases hp : 0 ≤ n
  · rw [if_pos hp]
    have hu : IntKind.u64.wrap n = ((n.toNat : Nat) : Int) := by rw [u64_wrap_id hp (by omega)]; omega
    have hnb := nb_le 8 n.toNat (by omega)
    have e2 : (wrap64 (128 + (nb n.toNat : Int))) % 256 = 128 + (nb n.toNat : Int) := by rw [wrap64_id (by omega) (by omega)]; omega
    have := high_ev (n.toNat : Int) (nb n.toNat) (l ++ [128 + (nb n.toNat : Int)]) hnb (by simp; omega)
    refine Ev.congr (g := fun k => (code_high.f k (l ++ [128 + (nb n.toNat : Int)]) (n.toNat : Int) (nb n.toNat : Int)).bind fun t => some t) (fun k => ?_) ?_
    · simp only [code_putInt.f]
      rw [if_pos hp, hu, size_code _ (by omega)]
      simp only [Option.bind_some]
      rw [if_pos (by omega), e2]
    · refine Ev.bind this ?_
      have e : ((n.toNat : Nat) : Int) = n := by omega
      rw [e]
      simpa using Ev.pure
  · rw [if_neg hp]
    have hw : wrap64 (-(wrap64 (n + 1))) = -(n + 1) := by rw [wrap64_id (n := n + 1) (by omega) (by omega), wrap64_id (by omega) (by omega)]
    have hu : IntKind.u64.wrap (wrap64 (-(wrap64 (n + 1)))) = (((-(n + 1)).toNat : Nat) : Int) := by rw [hw, u64_wrap_id (by omega) (by omega)]; omega
    have hnb := nb_le 8 (-(n + 1)).toNat (by omega)
    generalize hu' : (-(n + 1)).toNat = u at *
    have hmx : mx (nb u : Int) 1 = ((max (nb u) 1 : Nat) : Int) := by unfold mx; split <;> omega
    have e2 : (wrap64 (128 - ((max (nb u) 1 : Nat) : Int))) % 256 = 128 - ((max (nb u) 1 : Nat) : Int) := by rw [wrap64_id (by omega) (by omega)]; omega
    have := high_ev (18446744073709551615 - (u : Int)) (max (nb u) 1) (l ++ [128 - ((max (nb u) 1 : Nat) : Int)]) (by omega) (by simp; omega)
    refine Ev.congr (g := fun k => (code_high.f k (l ++ [128 - ((max (nb u) 1 : Nat) : Int)]) (18446744073709551615 - (u : Int)) ((max (nb u) 1 : Nat) : Int)).bind fun t => some t) (fun k => ?_) ?_
    · simp only [code_putInt.f]
      rw [if_neg (by omega), hu, size_code _ (by omega)]
      simp only [Option.bind_some]
      rw [if_pos (by omega), hmx, e2, not64_eq _ (by omega) (by omega)]
    · refine Ev.bind this ?_
      have e : ((u : Nat) : Int) = -(n + 1) := by omega
      rw [e]
      simpa using Ev.pure
theorem whole_ev (n : Int) (hn : (Lit.int .i64 n).wf = true) : Ev (fun k => vellumref02_whole.f k n) (codeInt n) := by
  obtain ⟨h0, h1⟩ := isInt_range hn
  unfold codeInt
  by_cases hp : 0 ≤ n
  · rw [if_pos hp]
    have hu : IntKind.u64.wrap n = ((n.toNat : Nat) : Int) := by rw [u64_wrap_id hp (by omega)]; omega
    have hnb := nb_le 8 n.toNat (by omega)
    have e2 : (wrap64 (128 + (nb n.toNat : Int))) % 256 = 128 + (nb n.toNat : Int) := by rw [wrap64_id (by omega) (by omega)]; omega
    have hb := big_ev (n.toNat : Int) (nb n.toNat) hnb
    have hl := be_length (n.toNat : Int) (nb n.toNat)
    simp only [vellumref02_whole.f, ge_iff_le, hp, if_true, hu]
    refine Ev.bind (size_ref _ (by omega)) ?_
    simp only [e2, Option.bind_some, List.nil_append, List.length_nil, List.length_singleton]
    refine Ev.pos (by omega) (Ev.bind hb ?_)
    rw [hl, if_pos (by omega)]
    have e : ((n.toNat : Nat) : Int) = n := by omega
    rw [e]
    exact Ev.pure
  · rw [if_neg hp]
    have hw : wrap64 (-(wrap64 (n + 1))) = -(n + 1) := by rw [wrap64_id (n := n + 1) (by omega) (by omega), wrap64_id (by omega) (by omega)]
    have hu : IntKind.u64.wrap (wrap64 (-(wrap64 (n + 1)))) = (((-(n + 1)).toNat : Nat) : Int) := by rw [hw, u64_wrap_id (by omega) (by omega)]; omega
    have hnb := nb_le 8 (-(n + 1)).toNat (by omega)
    have eu : (((-(n + 1)).toNat : Nat) : Int) = -(n + 1) := by omega
    generalize hu' : (-(n + 1)).toNat = u at *
    simp only [vellumref02_whole.f, ge_iff_le, hp, if_false, hu]
    refine Ev.bind (size_ref _ (by omega)) ?_
    by_cases h0 : nb u = 0
    · have hb := big_ev (18446744073709551615 - (u : Int)) 1 (by omega)
      have hl := be_length (18446744073709551615 - (u : Int)) 1
      simp only [h0, Int.ofNat_zero, if_true, Option.bind_some, List.nil_append, List.length_nil, List.length_singleton, not64_eq (u : Int) (by omega) (by omega)]
      refine Ev.pos (by omega) (Ev.bind hb ?_)
      rw [hl, if_pos (by omega), ← eu]
      exact Ev.pure
    · have hb := big_ev (18446744073709551615 - (u : Int)) (nb u) (by omega)
      have hl := be_length (18446744073709551615 - (u : Int)) (nb u)
      have e2 : (wrap64 (128 - (nb u : Int))) % 256 = 128 - (nb u : Int) := by rw [wrap64_id (by omega) (by omega)]; omega
      have hm : max (nb u) 1 = nb u := by omega
      have h0' : ¬ ((nb u : Int) = 0) := by omega
      simp only [h0', e2, if_false, Option.bind_some, List.nil_append, List.length_nil, List.length_singleton, not64_eq (u : Int) (by omega) (by omega)]
      refine Ev.pos (by omega) (Ev.bind hb ?_)
      rw [hl, if_pos (by omega), ← eu, hm]
      exact Ev.pure
theorem codeInt_length (n : Int) (hn : (Lit.int .i64 n).wf = true) : (codeInt n).length ≤ 9 := by
  obtain ⟨h0, h1⟩ := isInt_range hn
  have h2 := nb_le 8 n.toNat (by omega)
  have h3 := nb_le 8 (-(n + 1)).toNat (by omega)
  unfold codeInt
  split <;> simp [be_length] <;> omega
end Go.Proofs.YtpiifdbicibelaaDoor.Pure
end
section
namespace Go.Proofs.YtpiifdbicibelaaDoor.Pure
open Go.RowKit Go.Proofs Go.Proofs.YtpiifdbicibelaaDoorW.PrintWords Go.Proofs.YtpiifdbicibelaaDoorW.PrintLast Go.Proofs.YtpiifdbicibelaaDoorW.PrintMore Go.Proofs.YtpiifdbicibelaaDoor.PA Go.Proofs.YtpiifdbicibelaaDoor.OpenK
set_option linter.unusedVariables false
theorem order_self (d e : Ieee.Datum) (h : d.order e ≠ none) : d.order d = some .eq := by
  cases d with
  | nan => simp [Ieee.Datum.order] at h
  | infinity s => simp [Ieee.Datum.order]
  | number s m i => simp [Ieee.Datum.order]
theorem feq_self {a b : Nat} (h : feq a b = true) : feq a a = true := by
  unfold feq Ieee.Format.order at *
  have h' := beq_iff_eq.1 h
  rw [order_self _ _ (by rw [h']; simp)]
  rfl
theorem feq_zero : feq 0 0 = true := by decide +kernel
theorem plain_ev (k : Nat) (a b : Int) (c : Nat) (d : ByteArray) : value_Plain.f (k + 1) a b c d = some (a, b, if a = 3 then plainF c else c, d) := by
  unfold value_Plain.f plainF
  by_cases h : a = 3
  · simp only [h, if_true, value_Plain.j0, math_IsNaN.f, Option.bind_some, feq_zero]
    by_cases h0 : feq c 0 = true
    · simp [h0]
    · by_cases h1 : feq c c = true <;> simp [h0, h1]
  · simp [h]
theorem plainF_lt {c : Nat} (h : c < 18446744073709551616) : plainF c < 18446744073709551616 := by
  unfold plainF; split
  · omega
  · split <;> omega
theorem putFloat_ev (l : List Int) (b : Nat) (hb : b < 18446744073709551616) (hl : l.length + 10 < 140737488355328) : Ev (fun k => code_putFloat.f k l b) (l ++ codeBits b) := by
  simp only [code_putFloat.f, codeBits]
  by_cases h : b < 9223372036854775808
  · rw [if_pos h]
    refine Ev.pos (by omega) ?_
    rw [or_top _ (by omega) (by omega)]
    exact Ev.bind (high_ev _ 8 l (by omega) (by omega)) Ev.pure
  · rw [if_neg h]
    refine Ev.neg (by omega) ?_
    rw [not64_eq _ (by omega) (by omega)]
    exact Ev.bind (high_ev _ 8 l (by omega) (by omega)) Ev.pure
theorem real_ev (c : Nat) (hc : c < 18446744073709551616) : Ev (fun k => vellumref02_real.f k c) (codeBits (plainF c)) := by
  have h1 : ∀ b : Nat, b < 18446744073709551616 → Ev (fun k => vellumref02_real.j1 k (b : Int)) (codeBits b) := by
    intro b hb
    unfold codeBits
    by_cases h : b < 9223372036854775808
    · rw [if_pos h]
      refine Ev.step (g := fun k => (vellumref02_big.f k ((b : Int) + 9223372036854775808) 8).bind fun t => some t) (fun k => ?_) (Ev.bind (big_ev _ 8 (by omega)) Ev.pure)
      simp only [vellumref02_real.j1]
      rw [if_pos (by omega), xor_top _ (by omega) (by omega)]
    · rw [if_neg h]
      refine Ev.step (g := fun k => (vellumref02_big.f k (18446744073709551615 - (b : Int)) 8).bind fun t => some t) (fun k => ?_) (Ev.bind (big_ev _ 8 (by omega)) Ev.pure)
      simp only [vellumref02_real.j1]
      rw [if_neg (by omega), not64_eq _ (by omega) (by omega)]
  simp only [vellumref02_real.f, plainF]
  by_cases h0 : feq c 0 = true
  · refine Ev.pos h0 ?_
    rw [if_pos h0]
    refine Ev.step (g := fun k => vellumref02_real.j1 k ((0 : Nat) : Int)) (fun k => ?_) (h1 0 (by omega))
    simp only [vellumref02_real.j0]
    rw [if_pos (feq_self h0)]
    rfl
  · refine Ev.neg h0 ?_
    rw [if_neg h0]
    by_cases hn : feq c c = true
    · rw [if_pos hn]
      refine Ev.step (g := fun k => vellumref02_real.j1 k (c : Int)) (fun k => ?_) (h1 c hc)
      simp only [vellumref02_real.j0]
      rw [if_pos hn]
    · rw [if_neg hn]
      refine Ev.step (g := fun k => vellumref02_real.j1 k ((9221120237041090560 : Nat) : Int)) (fun k => ?_) (h1 _ (by omega))
      simp only [vellumref02_real.j0]
      rw [if_neg hn]
      rfl
theorem index_cons (b : UInt8) (l : List UInt8) : Lib.index (b :: l) [0] = if b = 0 then 0 else if Lib.index l [0] = -1 then -1 else Lib.index l [0] + 1 := by
  rw [Lib.index]
  by_cases h : b = 0
  · subst h; simp [List.isPrefixOf]
  · have : (0 : UInt8) ≠ b := fun e => h e.symm
    simp [List.isPrefixOf, h, this]
def zeroed (l : List UInt8) : List UInt8 := l.flatMap fun b => if b = 0 then [0, 255] else [b]
theorem replaceK_zero : ∀ (l : List UInt8) (k : Nat), l.count 0 ≤ k → Lib.replaceK [0] [0, 255] k l = zeroed l
  | [], k, _ => by
    cases k with
    | zero => rfl
    | succ k => simp [Lib.replaceK, Lib.index, zeroed]
  | b :: l, k, hk => by
    by_cases h : b = 0
    · subst h
      simp only [List.count_cons_self] at hk
      obtain ⟨k, rfl⟩ : ∃ j, k = j + 1 := ⟨k - 1, by omega⟩
      have ih := replaceK_zero l k (by omega)
      simp [Lib.replaceK, index_cons, zeroed, ih]
    · rw [List.count_cons_of_ne (by simpa using h)] at hk
      have ih := replaceK_zero l k hk
      have key : Lib.replaceK [0] [0, 255] k (b :: l) = b :: Lib.replaceK [0] [0, 255] k l := by
        cases k with
        | zero => rfl
        | succ k =>
          have hge := Lib.index_ge l [0]
          simp only [Lib.replaceK, index_cons, if_neg h]
          by_cases hm : Lib.index l [0] = -1
          · simp [hm]
          · have e1 : (Lib.index l [0] + 1).toNat = (Lib.index l [0]).toNat + 1 := by omega
            have e2 : ¬ (Lib.index l [0] + 1 = -1) := by omega
            simp [hm, e1, e2]
      rw [key, ih]
      simp [zeroed, h]
theorem replaceAll_zero (s : List UInt8) : Lib.replaceAll s [0] [0, 255] = zeroed s := by
  unfold Lib.replaceAll Lib.replace Lib.replaceNum
  rw [if_neg (by decide), if_pos (by omega)]
  exact replaceK_zero s _ (by rw [Lib.count_one]; exact Nat.le_refl _)
theorem codeText_zeroed : ∀ l : List UInt8, codeText l = (zeroed l).map (fun b => (b.toNat : Int)) ++ [0]
  | [] => rfl
  | b :: l => by
    have := codeText_zeroed l
    unfold codeText
    by_cases h : b = 0
    · subst h
      simp [zeroed] at this ⊢
      exact this
    · simp [zeroed, h] at this ⊢
      exact this
theorem zeroed_length (l : List UInt8) : (zeroed l).length ≤ 2 * l.length := by
  have h1 := codeText_length l
  have h2 := congrArg List.length (codeText_zeroed l)
  simp at h2
  omega
theorem putString_f (l : List Int) (s : ByteArray) (hs : s.size ≤ 65536) (hl : l.length + 140000 < 140737488355328) : code_putString.f l s = some (l ++ codeText s.data.toList) := by
  have hc := Lib.countB_le (⟨#[0]⟩ : ByteArray) (by decide) s.size s (Nat.le_refl _)
  have hr : strings_ReplaceAll.f s (⟨#[0]⟩ : ByteArray) (⟨#[0, 255]⟩ : ByteArray) = some ⟨(zeroed s.data.toList).toArray⟩ := by
    unfold strings_ReplaceAll.f
    have e2 : (⟨#[0, 255]⟩ : ByteArray).size = 2 := rfl
    have e1 : (⟨#[0]⟩ : ByteArray).size = 1 := rfl
    rw [if_pos ⟨by omega, by rw [e1]; omega, by rw [e2]; omega⟩, replaceAll_zero]
  have hz := zeroed_length s.data.toList
  rw [data_length] at hz
  have hsz : (⟨(zeroed s.data.toList).toArray⟩ : ByteArray).size = (zeroed s.data.toList).length := by
    show (zeroed s.data.toList).toArray.size = _
    simp
  have hbl := bytesOf_length ⟨(zeroed s.data.toList).toArray⟩
  unfold code_putString.f
  rw [hr]
  simp only [Option.bind_some]
  rw [if_pos (by omega), if_pos (by simp; omega), codeText_zeroed]
  simp [bytesOf]
theorem ended_ev (s : ByteArray) (hs : s.size ≤ 65536) : Ev (fun k => vellumref02_ended.f k s) (codeText s.data.toList) := by
  have go : ∀ (m : Nat) (i : Nat) (l : List Int), i + m = s.size → l.length ≤ 2 * i → Ev (fun k => vellumref02_ended.l0 k s l (i : Int)) (l ++ codeText (s.data.toList.drop i)) := by
    intro m
    induction m with
    | zero =>
      intro i l hi hl
      refine Ev.from_ 1 fun k => ?_
      simp only [vellumref02_ended.l0]
      rw [if_neg (by omega), if_pos (by omega), List.drop_of_length_le (by rw [data_length]; omega)]
      rfl
    | succ m ih =>
      intro i l hi hl
      have hlt : i < s.data.toList.length := by rw [data_length]; omega
      have hb : bt s i = ((s.data.toList[i]'hlt).toNat : Int) := by
        unfold bt
        simp only [Int.toNat_natCast]
        rw [dif_pos (by omega)]
        rfl
      rw [List.drop_eq_getElem_cons hlt]
      generalize s.data.toList[i]'hlt = b at hb
      have hiff : (bt s i = 0) ↔ b = 0 := by
        rw [hb]
        constructor
        · intro h
          have : b.toNat = 0 := by omega
          exact UInt8.toNat_inj.1 this
        · intro h; subst h; rfl
      by_cases h0 : b = 0
      · refine Ev.step (g := fun k => vellumref02_ended.l0 k s (l ++ [0] ++ [255]) ((i + 1 : Nat) : Int)) (fun k => ?_) ?_
        · have := hiff.2 h0
          simp only [vellumref02_ended.l0, Option.bind_some]
          rw [if_pos (by omega), if_pos (by omega), if_pos (by omega), this, if_pos rfl, if_pos (by simp; omega), wrap64_id (by omega) (by omega)]
          rfl
        · have := ih (i + 1) (l ++ [0] ++ [255]) (by omega) (by simp; omega)
          subst h0
          simpa [codeText] using this
      · refine Ev.step (g := fun k => vellumref02_ended.l0 k s (l ++ [(b.toNat : Int)]) ((i + 1 : Nat) : Int)) (fun k => ?_) ?_
        · have : ¬ bt s i = 0 := fun h => h0 (hiff.1 h)
          simp only [vellumref02_ended.l0, Option.bind_some]
          rw [if_pos (by omega), if_pos (by omega), if_pos (by omega), if_neg this, hb, wrap64_id (by omega) (by omega)]
          rfl
        · have := ih (i + 1) (l ++ [(b.toNat : Int)]) (by omega) (by simp; omega)
          simpa [codeText, h0] using this
  have := go s.size 0 [] (by omega) (by simp)
  simpa [vellumref02_ended.f] using this
def codeV (a b : Int) (c : Nat) (d : ByteArray) : List Int :=
  if a = 1 then [2, b % 256] else if a = 2 then 3 :: codeInt b else if a = 3 then 4 :: codeBits (plainF c) else if a = 4 then 5 :: codeText d.data.toList else if a = 5 then 6 :: codeText d.data.toList else [1]
theorem codeBits_length (b : Nat) : (codeBits b).length = 8 := by unfold codeBits; split <;> exact be_length _ _
theorem codeV_length (a b : Int) (c : Nat) (d : ByteArray) (hb : (Lit.int .i64 b).wf = true) (hd : d.size ≤ 65536) : (codeV a b c d).length ≤ 131074 := by
  have h1 := codeInt_length b hb
  have h2 := codeText_length d.data.toList
  have h3 := codeBits_length (plainF c)
  rw [data_length] at h2
  unfold codeV
  repeat' split
  all_goals (simp only [List.length_cons, List.length_nil]; omega)
theorem put_ev (l : List Int) (a b : Int) (c : Nat) (d : ByteArray) (hb : (Lit.int .i64 b).wf = true) (hc : c < 18446744073709551616) (hd : d.size ≤ 65536) (hl : l.length + 200000 < 140737488355328) :
    Ev (fun k => code_put.f k l a b c d) (l ++ codeV a b c d) := by
  simp only [code_put.f, codeV, Option.bind_some]
  by_cases h1 : a = 1
  · rw [if_pos h1]
    exact Ev.pos h1 (Ev.pos (by simp; omega) Ev.pure)
  rw [if_neg h1]
  refine Ev.neg h1 ?_
  by_cases h2 : a = 2
  · rw [if_pos h2]
    refine Ev.pos h2 (Ev.pos (by omega) (Ev.bind (putInt_ev (l ++ [3]) b hb (by simp; omega)) ?_))
    simpa using Ev.pure
  rw [if_neg h2]
  refine Ev.neg h2 ?_
  by_cases h3 : a = 3
  · rw [if_pos h3]
    refine Ev.pos h3 (Ev.pos (by omega) (Ev.bind (v := (a, b, plainF c, d)) (Ev.from_ 1 fun k => by rw [plain_ev, if_pos h3]) (Ev.bind (putFloat_ev (l ++ [4]) (plainF c) (plainF_lt hc) (by simp; omega)) ?_)))
    simpa using Ev.pure
  rw [if_neg h3]
  refine Ev.neg h3 ?_
  by_cases h4 : a = 4
  · rw [if_pos h4, if_pos h4]
    refine Ev.pos (by omega) (Ev.const ?_)
    rw [putString_f _ d hd (by simp; omega)]
    simp
  rw [if_neg h4, if_neg h4]
  by_cases h5 : a = 5
  · rw [if_pos h5, if_pos h5]
    refine Ev.pos (by omega) (Ev.const ?_)
    rw [putString_f _ d hd (by simp; omega)]
    simp
  rw [if_neg h5, if_neg h5]
  exact Ev.pos (by omega) Ev.pure
theorem code_ev (a b : Int) (c : Nat) (d : ByteArray) (ha : 0 ≤ a ∧ a ≤ 5) (hb : (Lit.int .i64 b).wf = true) (hc : c < 18446744073709551616) (hd : d.size ≤ 65536) :
    Ev (fun k => vellumref02_code.f k a b c d) (codeV a b c d) := by
  have e : (wrap64 (a + 1)) % 256 = a + 1 := by rw [wrap64_id (by omega) (by omega)]; omega
  have hI := codeInt_length b hb
  have hT := codeText_length d.data.toList
  rw [data_length] at hT
  have hF := codeBits_length (plainF c)
  simp only [vellumref02_code.f, codeV, Option.bind_some, e]
  by_cases h1 : a = 1
  · rw [if_pos h1]
    refine Ev.pos h1 (Ev.pos (by simp) ?_)
    subst h1
    exact Ev.pure
  rw [if_neg h1]
  refine Ev.neg h1 ?_
  by_cases h2 : a = 2
  · rw [if_pos h2]
    refine Ev.pos h2 (Ev.bind (whole_ev b hb) (Ev.pos (by simp; omega) ?_))
    subst h2
    exact Ev.pure
  rw [if_neg h2]
  refine Ev.neg h2 ?_
  by_cases h3 : a = 3
  · rw [if_pos h3]
    refine Ev.pos h3 (Ev.bind (real_ev c hc) (Ev.pos (by simp; omega) ?_))
    subst h3
    exact Ev.pure
  rw [if_neg h3]
  refine Ev.neg h3 ?_
  by_cases h4 : a = 4
  · rw [if_pos h4]
    refine Ev.pos h4 (Ev.bind (ended_ev d hd) (Ev.pos (by simp; omega) ?_))
    subst h4
    exact Ev.pure
  rw [if_neg h4]
  refine Ev.neg h4 ?_
  by_cases h5 : a = 5
  · rw [if_pos h5]
    refine Ev.pos h5 (Ev.bind (ended_ev d hd) (Ev.pos (by simp; omega) ?_))
    subst h5
    exact Ev.pure
  rw [if_neg h5]
  refine Ev.neg h5 ?_
  obtain rfl : a = 0 := by omega
  exact Ev.pure
def chkV (x : S50) : Int := chk x.f0 x.f1 x.f2 x.f3
def codeOf (x : S50) : List Int := codeV x.f0 x.f1 x.f2 x.f3
def build : List Int → List S50 → Option (List Int)
  | acc, [] => some acc
  | acc, x :: xs => if 1024 < (acc ++ codeOf x).length then none else build (acc ++ codeOf x) xs
def encode (xs : List S50) : ByteArray × Int :=
  if xs.all (fun x => chkV x == 0) then (match build [] xs with | none => (⟨#[]⟩, 3) | some l => (strOfNums l, 0)) else (⟨#[]⟩, 10)
theorem rd_get (l : List S50) (i : Nat) (x : S50) (h : l[i]? = some x) : rd_T50 l (i : Int) = x := by
  unfold rd_T50
  simp [List.getD, h]
theorem chk_ok {a b : Int} {c : Nat} {d : ByteArray} (h : chk a b c d = 0) : (0 ≤ a ∧ a ≤ 5) ∧ d.size ≤ 65536 := by
  unfold chk at h
  split at h
  · cases h
  · rename_i h1
    split at h
    · cases h
    · rename_i h2
      have : ¬ a < 0 := fun x => h1 (Or.inl x)
      have : ¬ 5 < a := fun x => h1 (Or.inr (Or.inl x))
      constructor
      · omega
      · omega
theorem encode_code (xs : List S50) (hw : ∀ x ∈ xs, wf50 x) (hl : xs.length < 9223372036854775807) : Ev (fun k => code_Encode.f k xs) (encode xs) := by
  have build_ev : ∀ (m i : Nat) (acc : List Int), i + m = xs.length → acc.length ≤ 1024 → (∀ x ∈ xs, chkV x = 0) →
      Ev (fun k => code_Encode.l1 k acc xs (xs.length : Int) (i : Int)) (match build acc (xs.drop i) with | none => (⟨#[]⟩, 3) | some l => (strOfNums l, 0)) := by
    intro m
    induction m with
    | zero =>
      intro i acc hi ha hc
      rw [List.drop_of_length_le (by omega)]
      refine Ev.from_ 1 fun k => ?_
      simp only [code_Encode.l1, build]
      rw [if_neg (by omega)]
    | succ m ih =>
      intro i acc hi ha hc
      have hlt : i < xs.length := by omega
      obtain ⟨x, hx⟩ : ∃ x, xs[i]? = some x := ⟨_, List.getElem?_eq_getElem hlt⟩
      have hmem : x ∈ xs := List.mem_of_getElem? hx
      have hd : xs.drop i = x :: xs.drop (i + 1) := by
        rw [List.drop_eq_getElem_cons hlt]
        congr 1
        exact Option.some.inj ((List.getElem?_eq_getElem hlt).symm.trans hx)
      have hok := chk_ok (hc x hmem)
      obtain ⟨w0, w1, w2, w3⟩ := hw x hmem
      refine Ev.step (g := fun k => (code_put.f k acc x.f0 x.f1 x.f2 x.f3).bind fun t181 => (if (t181.length : Int) > 1024 then (some ((⟨#[]⟩ : ByteArray), 3)) else (code_Encode.l1 k t181 xs (xs.length : Int) ((i + 1 : Nat) : Int)))) (fun k => ?_) ?_
      · simp only [code_Encode.l1]
        rw [if_pos (by omega), if_pos (by omega), if_pos (by omega), rd_get _ _ _ hx, wrap64_id (by omega) (by omega)]
        rfl
      · refine Ev.bind (put_ev acc _ _ _ _ w1 w2 hok.2 (by omega)) ?_
        rw [hd]
        by_cases hlen : 1024 < (acc ++ codeOf x).length
        · refine Ev.pos (by show ((acc ++ codeOf x).length : Int) > 1024; omega) ?_
          simp only [build]
          rw [if_pos hlen]
          exact Ev.pure
        · refine Ev.neg (by show ¬ ((acc ++ codeOf x).length : Int) > 1024; omega) ?_
          simp only [build]
          rw [if_neg hlen]
          exact ih (i + 1) (acc ++ codeOf x) (by omega) (by omega) hc
  have check_ev : ∀ (m i : Nat), i + m = xs.length → (∀ j x, j < i → xs[j]? = some x → chkV x = 0) → Ev (fun k => code_Encode.l0 k xs xs (xs.length : Int) (i : Int)) (encode xs) := by
    intro m
    induction m with
    | zero =>
      intro i hi hc
      have hall : ∀ x ∈ xs, chkV x = 0 := fun x hx => by
        obtain ⟨j, hj⟩ := List.getElem?_of_mem hx
        exact hc j x (by have := (List.getElem?_eq_some_iff.1 hj).1; omega) hj
      refine Ev.step (g := fun k => code_Encode.l1 k ([] : List Int) xs (xs.length : Int) ((0 : Nat) : Int)) (fun k => ?_) ?_
      · simp only [code_Encode.l0]
        rw [if_neg (by omega)]
        rfl
      · have := build_ev xs.length 0 [] (by omega) (by simp) hall
        have e : xs.all (fun x => chkV x == 0) = true := List.all_eq_true.2 fun x hx => by simp [hall x hx]
        unfold encode
        rw [if_pos e]
        simpa using this
    | succ m ih =>
      intro i hi hc
      have hlt : i < xs.length := by omega
      obtain ⟨x, hx⟩ : ∃ x, xs[i]? = some x := ⟨_, List.getElem?_eq_getElem hlt⟩
      have hmem : x ∈ xs := List.mem_of_getElem? hx
      obtain ⟨w0, w1, w2, w3⟩ := hw x hmem
      refine Ev.step (g := fun k => (value_Check.f k x.f0 x.f1 x.f2 x.f3).bind fun t178 => (if t178 = 0 then (code_Encode.l0 k xs xs (xs.length : Int) ((i + 1 : Nat) : Int)) else (some ((⟨#[]⟩ : ByteArray), 10)))) (fun k => ?_) ?_
      · simp only [code_Encode.l0]
        rw [if_pos (by omega), if_pos (by omega), if_pos (by omega), rd_get _ _ _ hx, wrap64_id (by omega) (by omega)]
        rfl
      · refine Ev.bind (Ev.from_ 6 fun k => check_code k _ _ _ _ w3) ?_
        by_cases h0 : chkV x = 0
        · refine Ev.pos h0 (ih (i + 1) (by omega) fun j y hj hy => ?_)
          rcases Nat.lt_or_ge j i with h | h
          · exact hc j y h hy
          · obtain rfl : j = i := by omega
            rw [hx] at hy; cases hy; exact h0
        · refine Ev.neg h0 ?_
          have e : ¬ xs.all (fun x => chkV x == 0) = true := fun h => h0 (by simpa using List.all_eq_true.1 h x hmem)
          unfold encode
          rw [if_neg e]
          exact Ev.pure
  have := check_ev xs.length 0 (by omega) (fun j x hj => by omega)
  simpa [code_Encode.f] using this
theorem encode_ref (xs : List S50) (hw : ∀ x ∈ xs, wf50 x) (hl : xs.length < 9223372036854775807) : Ev (fun k => vellumref02_Encode.f k xs) (encode xs) := by
  have build_ev : ∀ (m i : Nat) (acc : List Int), i + m = xs.length → acc.length ≤ 1024 → (∀ x ∈ xs, chkV x = 0) →
      Ev (fun k => vellumref02_Encode.l1 k xs acc (i : Int)) (match build acc (xs.drop i) with | none => (⟨#[]⟩, 3) | some l => (strOfNums l, 0)) := by
    intro m
    induction m with
    | zero =>
      intro i acc hi ha hc
      rw [List.drop_of_length_le (by omega)]
      refine Ev.from_ 1 fun k => ?_
      simp only [vellumref02_Encode.l1, build]
      rw [if_neg (by omega)]
    | succ m ih =>
      intro i acc hi ha hc
      have hlt : i < xs.length := by omega
      obtain ⟨x, hx⟩ : ∃ x, xs[i]? = some x := ⟨_, List.getElem?_eq_getElem hlt⟩
      have hmem : x ∈ xs := List.mem_of_getElem? hx
      have hd : xs.drop i = x :: xs.drop (i + 1) := by
        rw [List.drop_eq_getElem_cons hlt]
        congr 1
        exact Option.some.inj ((List.getElem?_eq_getElem hlt).symm.trans hx)
      have hok := chk_ok (hc x hmem)
      obtain ⟨w0, w1, w2, w3⟩ := hw x hmem
      have hcl := codeV_length x.f0 x.f1 x.f2 x.f3 w1 hok.2
      refine Ev.step (g := fun k => (vellumref02_code.f k x.f0 x.f1 x.f2 x.f3).bind fun t267 => (if acc.length + t267.length < 140737488355328 then ((some (acc ++ t267 : List Int)).bind fun y270 => (if (y270.length : Int) > 1024 then (some ((⟨#[]⟩ : ByteArray), 3)) else (vellumref02_Encode.l1 k xs y270 ((i + 1 : Nat) : Int)))) else (none))) (fun k => ?_) ?_
      · simp only [vellumref02_Encode.l1]
        rw [if_pos (by omega), if_pos (by omega), rd_get _ _ _ hx, wrap64_id (by omega) (by omega)]
        rfl
      · refine Ev.bind (code_ev _ _ _ _ hok.1 w1 w2 hok.2) ?_
        rw [hd]
        refine Ev.pos (by omega) ?_
        simp only [Option.bind_some]
        by_cases hlen : 1024 < (acc ++ codeOf x).length
        · refine Ev.pos (by show ((acc ++ codeOf x).length : Int) > 1024; omega) ?_
          simp only [build]
          rw [if_pos hlen]
          exact Ev.pure
        · refine Ev.neg (by show ¬ ((acc ++ codeOf x).length : Int) > 1024; omega) ?_
          simp only [build]
          rw [if_neg hlen]
          exact ih (i + 1) (acc ++ codeOf x) (by omega) (by omega) hc
  have check_ev : ∀ (m i : Nat), i + m = xs.length → (∀ j x, j < i → xs[j]? = some x → chkV x = 0) → Ev (fun k => vellumref02_Encode.l0 k xs (i : Int)) (encode xs) := by
    intro m
    induction m with
    | zero =>
      intro i hi hc
      have hall : ∀ x ∈ xs, chkV x = 0 := fun x hx => by
        obtain ⟨j, hj⟩ := List.getElem?_of_mem hx
        exact hc j x (by have := (List.getElem?_eq_some_iff.1 hj).1; omega) hj
      refine Ev.step (g := fun k => vellumref02_Encode.l1 k xs ([] : List Int) ((0 : Nat) : Int)) (fun k => ?_) ?_
      · simp only [vellumref02_Encode.l0]
        rw [if_neg (by omega)]
        rfl
      · have := build_ev xs.length 0 [] (by omega) (by simp) hall
        have e : xs.all (fun x => chkV x == 0) = true := List.all_eq_true.2 fun x hx => by simp [hall x hx]
        unfold encode
        rw [if_pos e]
        simpa using this
    | succ m ih =>
      intro i hi hc
      have hlt : i < xs.length := by omega
      obtain ⟨x, hx⟩ : ∃ x, xs[i]? = some x := ⟨_, List.getElem?_eq_getElem hlt⟩
      have hmem : x ∈ xs := List.mem_of_getElem? hx
      obtain ⟨w0, w1, w2, w3⟩ := hw x hmem
      refine Ev.step (g := fun k => (vellumref01_Check.f k x.f0 x.f1 x.f2 x.f3).bind fun t178 => (if t178 = 0 then (vellumref02_Encode.l0 k xs ((i + 1 : Nat) : Int)) else (some ((⟨#[]⟩ : ByteArray), 10)))) (fun k => ?_) ?_
      · simp only [vellumref02_Encode.l0]
        rw [if_pos (by omega), if_pos (by omega), rd_get _ _ _ hx, wrap64_id (by omega) (by omega)]
        rfl
      · refine Ev.bind (Ev.from_ 6 fun k => check_ref k _ _ _ _ w3) ?_
        by_cases h0 : chkV x = 0
        · refine Ev.pos h0 (ih (i + 1) (by omega) fun j y hj hy => ?_)
          rcases Nat.lt_or_ge j i with h | h
          · exact hc j y h hy
          · obtain rfl : j = i := by omega
            rw [hx] at hy; cases hy; exact h0
        · refine Ev.neg h0 ?_
          have e : ¬ xs.all (fun x => chkV x == 0) = true := fun h => h0 (by simpa using List.all_eq_true.1 h x hmem)
          unfold encode
          rw [if_neg e]
          exact Ev.pure
  have := check_ev xs.length 0 (by omega) (fun j x hj => by omega)
  simpa [vellumref02_Encode.f] using this
end Go.Proofs.YtpiifdbicibelaaDoor.Pure
end
section
namespace Go.Proofs.YtpiifdbicibelaaDoor.Pure
open Go.RowKit Go.Proofs Go.Proofs.YtpiifdbicibelaaDoorW.PrintWords
set_option linter.unusedVariables false
@[irreducible] def fval (r : Nat) : Nat := if r < 2 ^ 52 then r else (2 ^ 52 + r % 2 ^ 52) * 2 ^ (r / 2 ^ 52 - 1)
theorem fval_mono {r s : Nat} (h : r < s) : fval r < fval s := by
  unfold fval
  by_cases h1 : s < 2 ^ 52
  · rw [if_pos (by omega), if_pos h1]; exact h
  · rw [if_neg h1]
    have hs := Nat.div_add_mod s (2 ^ 52)
    have hr := Nat.div_add_mod r (2 ^ 52)
    have hsm := Nat.mod_lt s (y := 2 ^ 52) (by decide)
    have hrm := Nat.mod_lt r (y := 2 ^ 52) (by decide)
    have hp : 1 ≤ 2 ^ (s / 2 ^ 52 - 1) := Nat.one_le_two_pow
    by_cases h2 : r < 2 ^ 52
    · rw [if_pos h2]
      calc r < 2 ^ 52 + s % 2 ^ 52 := by omega
        _ = (2 ^ 52 + s % 2 ^ 52) * 1 := by omega
        _ ≤ _ := Nat.mul_le_mul_left _ hp
    · rw [if_neg h2]
      by_cases hq : r / 2 ^ 52 = s / 2 ^ 52
      · rw [hq]
        refine Nat.mul_lt_mul_of_pos_right ?_ (by omega)
        omega
      · have hq' : r / 2 ^ 52 < s / 2 ^ 52 := by omega
        have hq1 : 1 ≤ r / 2 ^ 52 := by omega
        calc (2 ^ 52 + r % 2 ^ 52) * 2 ^ (r / 2 ^ 52 - 1) < (2 ^ 52 * 2) * 2 ^ (r / 2 ^ 52 - 1) := Nat.mul_lt_mul_of_pos_right (by omega) (Nat.pos_of_ne_zero (by simp))
          _ = 2 ^ 52 * 2 ^ (r / 2 ^ 52) := by rw [Nat.mul_assoc, ← Nat.pow_succ']; congr 2; omega
          _ ≤ 2 ^ 52 * 2 ^ (s / 2 ^ 52 - 1) := Nat.mul_le_mul_left _ (Nat.pow_le_pow_right (by decide) (by omega))
          _ ≤ _ := Nat.mul_le_mul_right _ (by omega)
def frank (b : Nat) : Int := if b < 9223372036854775808 then (fval b : Int) else -(fval (b - 9223372036854775808) : Int)
def isNum (b : Nat) : Prop := b % 9223372036854775808 ≤ 9218868437227405312
theorem read_eq (b : Nat) (hb : b < 18446744073709551616) : FloatKind.f64.format.read b =
    (let neg := decide (9223372036854775808 ≤ b); let r := b % 9223372036854775808
     if r < 2 ^ 52 then .number neg r (-1074) else if r < 9218868437227405312 then .number neg (2 ^ 52 + r % 2 ^ 52) (-1074 + (r / 2 ^ 52 - 1 : Nat)) else if r = 9218868437227405312 then .infinity neg else .nan neg (r - 9218868437227405312)) := by
  have h1 : FloatKind.f64.format.signWeight = 9223372036854775808 := rfl
  have h2 : FloatKind.f64.format.binade = 2 ^ 52 := rfl
  have h3 : FloatKind.f64.format.infRung = 9218868437227405312 := rfl
  have h4 : FloatKind.f64.format.leastPlace = -1074 := rfl
  have h5 : (b / 9223372036854775808 % 2 == 1) = decide (9223372036854775808 ≤ b) := by
    by_cases h : 9223372036854775808 ≤ b
    · have : b / 9223372036854775808 % 2 = 1 := by omega
      simp [h, this]
    · have : b / 9223372036854775808 % 2 = 0 := by omega
      simp [h, this]
  unfold Ieee.Format.read
  rw [h1, h2, h3, h4, h5]
theorem signed_eq (s : Bool) (m u : Nat) : Ieee.signed s m u = if s then -((m * 2 ^ u : Nat) : Int) else ((m * 2 ^ u : Nat) : Int) := by
  unfold Ieee.signed
  rw [Nat.shiftLeft_eq]
theorem compare_mul {a b : Int} {k : Int} (hk : 0 < k) : compare (a * k) (b * k) = compare a b := by
  rcases Int.lt_trichotomy a b with h | h | h
  · rw [Int.compare_eq_lt.2 h, Int.compare_eq_lt.2 (Int.mul_lt_mul_of_pos_right h hk)]
  · subst h; simp
  · rw [Int.compare_eq_gt.2 h, Int.compare_eq_gt.2 (Int.mul_lt_mul_of_pos_right h hk)]
theorem order_numbers (s t : Bool) (m n e f : Nat) : (Ieee.Datum.number s m (-1074 + (e : Nat))).order (.number t n (-1074 + (f : Nat))) =
    some (compare (if s then -((m * 2 ^ e : Nat) : Int) else ((m * 2 ^ e : Nat) : Int)) (if t then -((n * 2 ^ f : Nat) : Int) else ((n * 2 ^ f : Nat) : Int))) := by
  unfold Ieee.Datum.order
  simp only [signed_eq]
  have hpe : ∀ x g : Nat, g ≤ x → (2 : Nat) ^ x = 2 ^ (x - g) * 2 ^ g := fun x g h => by rw [← Nat.pow_add]; congr 1; omega
  have h1 : ((-1074 + (e : Int)) - min (-1074 + (e : Int)) (-1074 + (f : Int))).toNat = e - min e f := by omega
  have h2 : ((-1074 + (f : Int)) - min (-1074 + (e : Int)) (-1074 + (f : Int))).toNat = f - min e f := by omega
  rw [h1, h2, hpe e (min e f) (by omega), hpe f (min e f) (by omega), ← Nat.mul_assoc, ← Nat.mul_assoc]
  have hk : (0 : Int) < ((2 ^ min e f : Nat) : Int) := by exact_mod_cast Nat.pos_of_ne_zero (by simp)
  congr 1
  rw [← compare_mul hk (a := if s then _ else _)]
  congr 1 <;> split <;> simp [Int.natCast_mul, Int.neg_mul]
theorem read_num {b : Nat} (hb : b < 18446744073709551616) (h : b % 9223372036854775808 < 9218868437227405312) :
    ∃ m e : Nat, FloatKind.f64.format.read b = .number (decide (9223372036854775808 ≤ b)) m (-1074 + (e : Int)) ∧ m * 2 ^ e = fval (b % 9223372036854775808) := by
  rw [read_eq b hb]
  by_cases h1 : b % 9223372036854775808 < 2 ^ 52
  · refine ⟨b % 9223372036854775808, 0, ?_, ?_⟩
    · simp only []
      rw [if_pos h1]
      rfl
    · unfold fval; rw [if_pos h1]; omega
  · refine ⟨2 ^ 52 + b % 9223372036854775808 % 2 ^ 52, b % 9223372036854775808 / 2 ^ 52 - 1, ?_, ?_⟩
    · simp only []
      rw [if_neg h1, if_pos h]
    · unfold fval; rw [if_neg h1]
theorem read_inf {b : Nat} (hb : b < 18446744073709551616) (h : b % 9223372036854775808 = 9218868437227405312) : FloatKind.f64.format.read b = .infinity (decide (9223372036854775808 ≤ b)) := by
  rw [read_eq b hb]
  simp only []
  rw [if_neg (by omega), if_neg (by omega), if_pos h]
theorem read_nan {b : Nat} (hb : b < 18446744073709551616) (h : ¬ isNum b) : ∃ s f, FloatKind.f64.format.read b = .nan s f := by
  unfold isNum at h
  rw [read_eq b hb]
  simp only []
  rw [if_neg (by omega), if_neg (by omega), if_neg (by omega)]
  exact ⟨_, _, rfl⟩
theorem frank_eq {b : Nat} (hb : b < 18446744073709551616) : frank b = if decide (9223372036854775808 ≤ b) then -(fval (b % 9223372036854775808) : Int) else (fval (b % 9223372036854775808) : Int) := by
  unfold frank
  by_cases h : b < 9223372036854775808
  · have e : b % 9223372036854775808 = b := by omega
    rw [if_pos h, e, if_neg (by simp; omega)]
  · have e : b % 9223372036854775808 = b - 9223372036854775808 := by omega
    rw [if_neg h, e, if_pos (by simp; omega)]
theorem order_rank {b c : Nat} (hb : b < 18446744073709551616) (hc : c < 18446744073709551616) (nb : isNum b) (nc : isNum c) : FloatKind.f64.format.order b c = some (compare (frank b) (frank c)) := by
  unfold isNum at nb nc
  unfold Ieee.Format.order
  rw [frank_eq hb, frank_eq hc]
  have big : ∀ r, r < 9218868437227405312 → fval r < fval 9218868437227405312 := fun r h => fval_mono h
  have hpos : 0 < fval 9218868437227405312 := by have := big 0 (by omega); omega
  rcases Nat.lt_or_ge (b % 9223372036854775808) 9218868437227405312 with h1 | h1
  · obtain ⟨m, e, hr, hm⟩ := read_num hb h1
    rw [hr]
    rcases Nat.lt_or_ge (c % 9223372036854775808) 9218868437227405312 with h2 | h2
    · obtain ⟨n, f, hs, hn⟩ := read_num hc h2
      rw [hs, order_numbers, hm, hn]
    · have h2' : c % 9223372036854775808 = 9218868437227405312 := by omega
      rw [read_inf hc h2', h2']
      have := big _ h1
      simp only [Ieee.Datum.order]
      cases decide (9223372036854775808 ≤ c)
      · simp only [Bool.false_eq_true, if_false]
        congr 1
        refine (Int.compare_eq_lt.2 ?_).symm
        split <;> omega
      · simp only [if_true]
        congr 1
        refine (Int.compare_eq_gt.2 ?_).symm
        split <;> omega
  · have h1' : b % 9223372036854775808 = 9218868437227405312 := by omega
    rw [read_inf hb h1', h1']
    rcases Nat.lt_or_ge (c % 9223372036854775808) 9218868437227405312 with h2 | h2
    · obtain ⟨n, f, hs, hn⟩ := read_num hc h2
      rw [hs]
      have := big _ h2
      simp only [Ieee.Datum.order]
      cases decide (9223372036854775808 ≤ b)
      · simp only [Bool.false_eq_true, if_false]
        congr 1
        refine (Int.compare_eq_gt.2 ?_).symm
        split <;> omega
      · simp only [if_true]
        congr 1
        refine (Int.compare_eq_lt.2 ?_).symm
        split <;> omega
    · have h2' : c % 9223372036854775808 = 9218868437227405312 := by omega
      rw [read_inf hc h2', h2']
      simp only [Ieee.Datum.order]
      cases decide (9223372036854775808 ≤ b) <;> cases decide (9223372036854775808 ≤ c)
      · simp
      · simp only [Bool.false_eq_true, if_false, if_true]
        congr 1
        have : compare (true.toNat) (false.toNat) = .gt := by decide
        rw [this]
        refine (Int.compare_eq_gt.2 ?_).symm
        omega
      · simp only [Bool.false_eq_true, if_false, if_true]
        congr 1
        have : compare (false.toNat) (true.toNat) = .lt := by decide
        rw [this]
        refine (Int.compare_eq_lt.2 ?_).symm
        omega
      · simp
theorem order_nan {b c : Nat} (hb : b < 18446744073709551616) (hc : c < 18446744073709551616) (h : ¬ isNum b ∨ ¬ isNum c) : FloatKind.f64.format.order b c = none := by
  unfold Ieee.Format.order
  rcases h with h | h
  · obtain ⟨s, f, e⟩ := read_nan hb h
    rw [e]; simp [Ieee.Datum.order]
  · obtain ⟨s, f, e⟩ := read_nan hc h
    rw [e]; cases FloatKind.f64.format.read b <;> simp [Ieee.Datum.order]
theorem feq_num {b : Nat} (hb : b < 18446744073709551616) : feq b b = true ↔ isNum b := by
  by_cases h : isNum b
  · unfold feq; rw [order_rank hb hb h h]; simp [h]
  · unfold feq; rw [order_nan hb hb (Or.inl h)]; simp [h]
theorem feq_iff {b c : Nat} (hb : b < 18446744073709551616) (hc : c < 18446744073709551616) : feq b c = true ↔ isNum b ∧ isNum c ∧ frank b = frank c := by
  by_cases h1 : isNum b <;> by_cases h2 : isNum c
  · unfold feq; rw [order_rank hb hc h1 h2]; simp [h1, h2]
  · unfold feq; rw [order_nan hb hc (Or.inr h2)]; simp [h2]
  · unfold feq; rw [order_nan hb hc (Or.inl h1)]; simp [h1]
  · unfold feq; rw [order_nan hb hc (Or.inl h1)]; simp [h1]
def fkey (b : Nat) : Int := if b < 9223372036854775808 then (b : Int) + 9223372036854775808 else 18446744073709551615 - (b : Int)
theorem codeBits_fkey (b : Nat) : codeBits b = be (fkey b) 8 := by unfold codeBits fkey; split <;> rfl
theorem fval_zero : fval 0 = 0 := by unfold fval; rfl
theorem plainF_num {b : Nat} (hb : b < 18446744073709551616) (h : isNum b) : isNum (plainF b) ∧ frank (plainF b) = frank b ∧ plainF b ≠ 9223372036854775808 := by
  have hz : isNum 0 := by unfold isNum; omega
  unfold plainF
  by_cases h0 : feq b 0 = true
  · rw [if_pos h0]
    exact ⟨hz, ((feq_iff hb (by omega)).1 h0).2.2.symm, by omega⟩
  · rw [if_neg h0, if_pos ((feq_num hb).2 h)]
    refine ⟨h, rfl, fun e => h0 ?_⟩
    subst e
    exact (feq_iff hb (by omega)).2 ⟨h, hz, by unfold frank; rw [if_neg (by omega), if_pos (by omega)]; simp [fval_zero]⟩
theorem plainF_nan {b : Nat} (hb : b < 18446744073709551616) (h : ¬ isNum b) : plainF b = 9221120237041090560 := by
  unfold plainF
  rw [if_neg (fun h0 => h ((feq_iff hb (by omega)).1 h0).1), if_neg (fun h0 => h ((feq_num hb).1 h0))]
end Go.Proofs.YtpiifdbicibelaaDoor.Pure
end
section
namespace Go.Proofs.YtpiifdbicibelaaDoor.PA
open Go.RowKit Go.Proofs.YtpiifdbicibelaaDoorW.PrintWords Go.Proofs.YtpiifdbicibelaaDoorW.PrintLast Go.Proofs.YtpiifdbicibelaaDoorW.PrintMore
attribute [local go_sem] max2_int min2_int max_two min_two max_three min_three max_four min_four   -- for this text's walks alone
set_option linter.unusedVariables false
set_option linter.unusedSimpArgs false
end Go.Proofs.YtpiifdbicibelaaDoor.PA
end
section
namespace Go.Proofs.YtpiifdbicibelaaDoor.Pure
open Go.RowKit Go.Proofs Go.Proofs.YtpiifdbicibelaaDoorW.PrintWords Go.Proofs.YtpiifdbicibelaaDoorW.PrintLast Go.Proofs.YtpiifdbicibelaaDoorW.PrintMore Go.Proofs.YtpiifdbicibelaaDoor.PA Go.Proofs.YtpiifdbicibelaaDoor.OpenK
set_option linter.unusedVariables false
def Tail (r : List Int) : Prop := ∀ x l, r = x :: l → x < 255
def Bf (u v : List Int) : Prop := ∀ r s, Tail r → u ++ r < v ++ s
theorem Bf.cons {a : Int} {u v : List Int} (h : Bf u v) : Bf (a :: u) (a :: v) := fun r s hr => List.cons_lt_cons_iff.2 (Or.inr ⟨rfl, h r s hr⟩)
theorem Bf.head {a b : Int} {u v : List Int} (h : a < b) : Bf (a :: u) (b :: v) := fun r s hr => List.cons_lt_cons_iff.2 (Or.inl h)
theorem nb_spec (u : Nat) : u < 256 ^ nb u := by
  induction u using Nat.strongRecOn with
  | ind u ih =>
    unfold nb
    by_cases h : u = 0
    · rw [dif_pos h]; subst h; simp
    · rw [dif_neg h]
      have := ih (u / 256) (by omega)
      rw [Nat.add_comm, Nat.pow_succ]
      omega
theorem top_mod {n u : Nat} (hn : n ≤ 8) (hu : u < 256 ^ n) : (18446744073709551615 - u) % 256 ^ n = 256 ^ n - 1 - u := by
  have hk : 18446744073709551615 - u = (256 ^ n - 1 - u) + 256 ^ n * (256 ^ (8 - n) - 1) := by
    have e : (256 : Nat) ^ n * 256 ^ (8 - n) = 18446744073709551616 := by
      rw [← Nat.pow_add, Nat.add_sub_cancel' hn]
    rw [Nat.mul_sub, e]
    have h1 : 256 ^ n ≤ 18446744073709551616 := by
      rw [← e]
      exact Nat.le_mul_of_pos_right _ (Nat.pow_pos (by decide))
    omega
  rw [hk, Nat.add_mul_mod_self_left, Nat.mod_eq_of_lt (by omega)]
def Says (t : Int) (u v : List Int) : Prop := (t = -1 ∧ Bf u v) ∨ (t = 1 ∧ Bf v u) ∨ (t = 0 ∧ u = v)
theorem Says.cons {t a : Int} {u v : List Int} (h : Says t u v) : Says t (a :: u) (a :: v) := by
  rcases h with ⟨h1, h2⟩ | ⟨h1, h2⟩ | ⟨h1, h2⟩
  · exact Or.inl ⟨h1, h2.cons⟩
  · exact Or.inr (Or.inl ⟨h1, h2.cons⟩)
  · exact Or.inr (Or.inr ⟨h1, by rw [h2]⟩)
end Go.Proofs.YtpiifdbicibelaaDoor.Pure
end
section
namespace Go.Proofs.YtpiifdbicibelaaDoor.Pure
open Go.RowKit Go.Proofs Go.Proofs.YtpiifdbicibelaaDoorW.PrintWords Go.Proofs.YtpiifdbicibelaaDoorW.PrintLast Go.Proofs.YtpiifdbicibelaaDoorW.PrintMore Go.Proofs.YtpiifdbicibelaaDoor.PA Go.Proofs.YtpiifdbicibelaaDoor.OpenK
set_option linter.unusedVariables false
def flat (xs : List S50) : List Int := xs.flatMap codeOf
theorem build_flat : ∀ (xs : List S50) (acc l : List Int), build acc xs = some l → l = acc ++ flat xs ∧ (acc.length ≤ 1024 → l.length ≤ 1024)
  | [], acc, l, h => by
    simp only [build, Option.some.injEq] at h
    subst h
    simp [flat]
  | x :: xs, acc, l, h => by
    simp only [build] at h
    split at h
    · cases h
    · rename_i hl
      obtain ⟨h1, h2⟩ := build_flat xs _ _ h
      refine ⟨by rw [h1]; simp [flat], fun _ => h2 (by omega)⟩
theorem encode_ok {xs : List S50} (h : (encode xs).2 = 0) : (∀ x ∈ xs, chkV x = 0) ∧ encode xs = (strOfNums (flat xs), 0) ∧ (flat xs).length ≤ 1024 := by
  unfold encode at h ⊢
  split at h
  · rename_i ha
    have hc : ∀ x ∈ xs, chkV x = 0 := fun x hx => by simpa using List.all_eq_true.1 ha x hx
    cases hb : build [] xs with
    | none => rw [hb] at h; cases h
    | some l =>
      obtain ⟨h1, h2⟩ := build_flat xs [] l hb
      simp only [List.nil_append] at h1
      subst h1
      rw [if_pos ha]
      exact ⟨hc, rfl, h2 (by simp)⟩
  · cases h
def Bytes (l : List Int) : Prop := ∀ x ∈ l, 0 ≤ x ∧ x ≤ 255
theorem be_bytes (u : Int) : ∀ n, Bytes (be u n)
  | 0 => by intro x hx; simp [be] at hx
  | n + 1 => by
    intro x hx
    simp only [be, List.mem_cons] at hx
    rcases hx with rfl | hx
    · omega
    · exact be_bytes u n x hx
theorem codeText_bytes : ∀ l : List UInt8, Bytes (codeText l)
  | [] => by intro x hx; simp [codeText] at hx; omega
  | b :: l => by
    have ih := codeText_bytes l
    have hb := b.toNat_lt
    intro x hx
    unfold codeText at hx
    split at hx
    · simp only [List.mem_cons] at hx
      rcases hx with rfl | rfl | hx
      · omega
      · omega
      · exact ih x hx
    · simp only [List.mem_cons] at hx
      rcases hx with rfl | hx
      · omega
      · exact ih x hx
theorem Bytes.cons {a : Int} {l : List Int} (h : 0 ≤ a ∧ a ≤ 255) (hl : Bytes l) : Bytes (a :: l) := by
  intro x hx
  rcases List.mem_cons.1 hx with rfl | hx
  · exact h
  · exact hl x hx
theorem codeInt_bytes {n : Int} (hn : (Lit.int .i64 n).wf = true) : Bytes (codeInt n) := by
  obtain ⟨h0, h1⟩ := isInt_range hn
  have h2 := nb_le 8 n.toNat (by omega)
  have h3 := nb_le 8 (-(n + 1)).toNat (by omega)
  unfold codeInt
  split
  · exact Bytes.cons (by omega) (be_bytes _ _)
  · exact Bytes.cons (by omega) (be_bytes _ _)
theorem codeOf_bytes {x : S50} (w : wf50 x) : Bytes (codeOf x) := by
  obtain ⟨x0, x1, x2, x3⟩ := w
  unfold codeOf codeV
  split
  · exact Bytes.cons (by omega) (Bytes.cons (by omega) (fun _ h => by cases h))
  · split
    · exact Bytes.cons (by omega) (codeInt_bytes x1)
    · split
      · exact Bytes.cons (by omega) (by rw [codeBits_fkey]; exact be_bytes _ _)
      · split
        · exact Bytes.cons (by omega) (codeText_bytes _)
        · split
          · exact Bytes.cons (by omega) (codeText_bytes _)
          · exact Bytes.cons (by omega) (fun _ h => by cases h)
theorem flat_bytes {xs : List S50} (w : ∀ x ∈ xs, wf50 x) : Bytes (flat xs) := by
  intro b hb
  obtain ⟨x, hx, hm⟩ := List.mem_flatMap.1 hb
  exact codeOf_bytes (w x hx) b hm
def toB (l : List Int) : List UInt8 := l.map fun n => UInt8.ofNat n.toNat
theorem strOfNums_data (l : List Int) : (strOfNums l).data.toList = toB l := by simp [strOfNums, toB]
theorem ofNat_toNat {a : Int} (h : 0 ≤ a ∧ a ≤ 255) : (UInt8.ofNat a.toNat).toNat = a.toNat := by
  rw [UInt8.toNat_ofNat']; omega
theorem codeOf_head (x : S50) : ∃ a l, codeOf x = a :: l ∧ a < 255 := by
  unfold codeOf codeV
  split
  · exact ⟨_, _, rfl, by omega⟩
  · split
    · exact ⟨_, _, rfl, by omega⟩
    · split
      · exact ⟨_, _, rfl, by omega⟩
      · split
        · exact ⟨_, _, rfl, by omega⟩
        · split
          · exact ⟨_, _, rfl, by omega⟩
          · exact ⟨_, _, rfl, by omega⟩
theorem flat_tail : ∀ xs : List S50, Tail (flat xs)
  | [], x, l, h => by simp [flat] at h
  | y :: ys, x, l, h => by
    obtain ⟨a, t, e, ha⟩ := codeOf_head y
    simp only [flat, List.flatMap_cons, e, List.cons_append, List.cons.injEq] at h
    omega
theorem flat_cons (x : S50) (xs : List S50) : flat (x :: xs) = codeOf x ++ flat xs := by simp [flat]
end Go.Proofs.YtpiifdbicibelaaDoor.Pure
end
section
namespace Go.Proofs.YtpiifdbicibelaaDoor.PA
open Go.RowKit Go.Proofs.YtpiifdbicibelaaDoorW.PrintWords Go.Proofs.YtpiifdbicibelaaDoorW.PrintLast Go.Proofs.YtpiifdbicibelaaDoorW.PrintMore
attribute [local go_sem] max2_int min2_int max_two min_two max_three min_three max_four min_four   -- for this text's walks alone
set_option linter.unusedVariables false
set_option linter.unusedSimpArgs false
def code_take.f (a0 : ByteArray) (a1 : Int) : Option (ByteArray × ByteArray × Bool) := if a1 > (a0.size : Int) then (some ((⟨#[]⟩ : ByteArray), (⟨#[]⟩ : ByteArray), false)) else (if 0 ≤ a1 then (if a1 ≤ (a0.size : Int) then (some (a0.extract 0 (a1 : Int).toNat, a0.extract (a1 : Int).toNat a0.size, true)) else (none)) else (none))
set_option maxHeartbeats 8000000 in
set_option maxRecDepth 100000 in
theorem code_take.calls (a0 : ByteArray) (a1 : Int) (r1 : ByteArray) (r2 : ByteArray) (r3 : Bool) (w : World) (h : code_take.f a0 a1 = some (r1, r2, r3)) :
  Calls Tryd.prog 110 #[.string a0, .int .i64 a1] w fun e w' => e = .returned (.tuple #[.string r1, .string r2, .bool r3]) ∧ Drawn0 w w' := by
 have H : (if a1 > (a0.size : Int) then (some ((⟨#[]⟩ : ByteArray), (⟨#[]⟩ : ByteArray), false)) else (if 0 ≤ a1 then (if a1 ≤ (a0.size : Int) then (some (a0.extract 0 (a1 : Int).toNat, a0.extract (a1 : Int).toNat a0.size, true)) else (none)) else (none))) = some (r1, r2, r3) := h
 clear h
 by_cases c3 : a1 > (a0.size : Int)
 ·rw [if_pos c3] at H
  have c3b0 : decide ((a0.size : Int) < a1) = true := decide_eq_true c3
  clear c3
  simp only [Option.some.injEq, Prod.mk.injEq] at H
  obtain ⟨rfl, rfl, rfl⟩ := H
  go_enter Tryd.func110, Tryd.ntmps110
  go_wp2
  repeat (go_quiet (fail); try go_wp2)
  go_ret3
  exact ⟨by first | rfl | (simp; done) | (simp [*]; done) | (simp [bool_ne_nil]; done) | (simp; exact bool_ne_nil _), by repeat (first | exact Drawn0.refl _ | apply Drawn0.step)⟩
 ·rw [if_neg c3] at H
  have c3b0 : decide ((a0.size : Int) < a1) = false := decide_eq_false c3
  clear c3
  by_cases c4 : 0 ≤ a1
  ·rw [if_pos c4] at H
   have c4b0 := eq_true c4
   have c4b1 : decide (0 ≤ a1) = true := decide_eq_true c4
   clear c4
   by_cases c5 : a1 ≤ (a0.size : Int)
   ·rw [if_pos c5] at H
    have c5b0 := eq_true c5
    have c5b1 : decide (a1 ≤ (a0.size : Int)) = true := decide_eq_true c5
    clear c5
    have c6b0 := eq_true (of_decide_eq_true (by first | (with_reducible assumption) | assumption) : 0 ≤ a1)
    have c7b0 := eq_true (of_decide_eq_true (by first | (with_reducible assumption) | assumption) : a1 ≤ (a0.size : Int))
    simp only [Option.some.injEq, Prod.mk.injEq] at H
    obtain ⟨rfl, rfl, rfl⟩ := H
    go_enter Tryd.func110, Tryd.ntmps110
    go_wp2
    repeat (go_quiet (fail); try go_wp2)
    go_ret3
    exact ⟨by first | rfl | (simp; done) | (simp [*]; done) | (simp [bool_ne_nil]; done) | (simp; exact bool_ne_nil _), by repeat (first | exact Drawn0.refl _ | apply Drawn0.step)⟩
   ·rw [if_neg c5] at H
    exact absurd H (by simp)
  ·rw [if_neg c4] at H
   exact absurd H (by simp)
def code_number.l0 : Nat → ByteArray → Int → Int → Int → Option (Int)
 | 0, _, _, _, _ => none
 | k + 1, x0, x3, x6, x7 => if x7 < x6 then (if 0 ≤ x7 then (if x7 < (x0.size : Int) then (code_number.l0 k x0 (Go.bits .or .u64 (IntKind.u64.wrap (x3 * 256)) (IntKind.u64.wrap (bt x0 x7))) x6 (wrap64 (x7 + 1))) else (none)) else (none)) else (some x3)
def code_number.f (k : Nat) (a0 : ByteArray) : Option (Int) := code_number.l0 k a0 0 (a0.size : Int) 0
set_option maxHeartbeats 8000000 in
set_option maxRecDepth 100000 in
theorem code_number.calls (k : Nat) (a0 : ByteArray) (r : Int) (w : World) (h : code_number.f k a0 = some r) :
  Calls Tryd.prog 144 #[.string a0] w fun e w' => e = .returned (.int .u64 r) ∧ Drawn0 w w' := by
 have H : (code_number.l0 k a0 0 (a0.size : Int) 0) = some r := h
 clear h
 have H' := Aside0.mk H
 clear H
 go_enter Tryd.func144, Tryd.ntmps144
 go_wp2
 go_loopg [3, 7] k (fun kq v3 v7 w' => ∃ (x3_1 : Int) (x7_1 : Int), v3 = .int .u64 x3_1 ∧ v7 = .int .i64 x7_1 ∧ Aside0 (code_number.l0 kq a0 x3_1 (a0.size : Int) x7_1 = some r) ∧ Aside0 (kq ≤ k) ∧ Drawn0 w w')
 case atStart => exact ⟨(0), (0), (by first | rfl | (simp; done) | (simp [*]; done) | (simp [bool_ne_nil]; done) | (simp; exact bool_ne_nil _)), (by first | rfl | (simp; done) | (simp [*]; done) | (simp [bool_ne_nil]; done) | (simp; exact bool_ne_nil _)), H', ⟨Nat.le_refl _⟩, by repeat (first | exact Drawn0.refl _ | apply Drawn0.step)⟩
 case round =>
  clear H'
  try clear c1
  obtain ⟨x3_1, x7_1, rfl, rfl, HA, HK1, ⟨m1, rfl⟩⟩ := hrel
  cases gk with
  | zero => exact absurd HA.out (by simp [code_number.l0])
  | succ k1 =>
   have H := HA.out
   clear HA
   simp only [code_number.l0] at H
   by_cases c2 : x7_1 < (a0.size : Int)
   ·rw [if_pos c2] at H
    have c2b0 : decide (x7_1 < (a0.size : Int)) = true := decide_eq_true c2
    clear c2
    by_cases c3 : 0 ≤ x7_1
    ·rw [if_pos c3] at H
     have c3b0 : decide (0 ≤ x7_1) = true := decide_eq_true c3
     clear c3
     by_cases c4 : x7_1 < (a0.size : Int)
     ·rw [if_pos c4] at H
      have c4b0 : decide (x7_1 < (a0.size : Int)) = true := decide_eq_true c4
      clear c4
      have H' := Aside0.mk H
      clear H
      have p5 : 0 ≤ (x7_1 : Int) := of_decide_eq_true (by first | (with_reducible assumption) | assumption)
      have q5 : x7_1 < (a0.size : Int) := of_decide_eq_true (by first | (with_reducible assumption) | assumption)
      have hx5 := bt_at a0 x7_1
      replace p5 := eq_true p5
      replace q5 := eq_true q5
      go_wp2
      go_roundg k1
      case measure => have := HK1.out; omega
      case rel => exact ⟨(Go.bits .or .u64 (IntKind.u64.wrap (x3_1 * 256)) (IntKind.u64.wrap (bt a0 x7_1))), (wrap64 (x7_1 + 1)), (by first | rfl | (simp; done) | (simp [*]; done) | (simp [bool_ne_nil]; done) | (simp; exact bool_ne_nil _)), (by first | rfl | (simp; done) | (simp [*]; done) | (simp [bool_ne_nil]; done) | (simp; exact bool_ne_nil _)), H', ⟨by have := HK1.out; omega⟩, by repeat (first | exact Drawn0.refl _ | apply Drawn0.step)⟩
     ·rw [if_neg c4] at H
      exact absurd H (by simp)
    ·rw [if_neg c3] at H
     exact absurd H (by simp)
   ·rw [if_neg c2] at H
    have c2b0 : decide (x7_1 < (a0.size : Int)) = false := decide_eq_false c2
    clear c2
    obtain rfl := Option.some.inj H
    go_wp2
    go_ret
    exact ⟨by first | rfl | (simp; done) | (simp [*]; done) | (simp [bool_ne_nil]; done) | (simp; exact bool_ne_nil _), by repeat (first | exact Drawn0.refl _ | apply Drawn0.step)⟩
def code_getInt.f (k : Nat) (a0 : ByteArray) : Option (Int × Int × Nat × ByteArray × ByteArray × Bool) := (code_take.f a0 1).bind fun bt449 => (if bt449.2.2 = true then (if 0 < (bt449.1.size : Int) then (if (wrap64 ((wrap64 (bt bt449.1 0)) - 128)) < 0 then (if (wrap64 (-(wrap64 ((wrap64 (bt bt449.1 0)) - 128)))) > 8 then (some (0, 0, 0, (⟨#[]⟩ : ByteArray), (⟨#[]⟩ : ByteArray), false)) else ((code_take.f bt449.2.1 (wrap64 (-(wrap64 ((wrap64 (bt bt449.1 0)) - 128))))).bind fun bt452 => (if bt452.2.2 = true then ((code_number.f k bt452.1).bind fun t455 => (if 0 ≤ (wrap64 (64 - (wrap64 (8 * (wrap64 (-(wrap64 ((wrap64 (bt bt449.1 0)) - 128)))))))) then ((code_size.f (Go.bits .xor .u64 t455 (shr .u64 18446744073709551615 (wrap64 (64 - (wrap64 (8 * (wrap64 (-(wrap64 ((wrap64 (bt bt449.1 0)) - 128))))))))))).bind fun t456 => (if t456 = (wrap64 (-(wrap64 ((wrap64 (bt bt449.1 0)) - 128)))) then (if (Go.bits .xor .u64 t455 (shr .u64 18446744073709551615 (wrap64 (64 - (wrap64 (8 * (wrap64 (-(wrap64 ((wrap64 (bt bt449.1 0)) - 128)))))))))) > 9223372036854775807 then (some (0, 0, 0, (⟨#[]⟩ : ByteArray), (⟨#[]⟩ : ByteArray), false)) else (some (2, wrap64 ((wrap64 (-(wrap64 (Go.bits .xor .u64 t455 (shr .u64 18446744073709551615 (wrap64 (64 - (wrap64 (8 * (wrap64 (-(wrap64 ((wrap64 (bt bt449.1 0)) - 128))))))))))))) - 1), 0, (⟨#[]⟩ : ByteArray), bt452.2.1, true))) else (if (Go.bits .xor .u64 t455 (shr .u64 18446744073709551615 (wrap64 (64 - (wrap64 (8 * (wrap64 (-(wrap64 ((wrap64 (bt bt449.1 0)) - 128)))))))))) = 0 then (if ((wrap64 (-(wrap64 ((wrap64 (bt bt449.1 0)) - 128)))) = 1) then (if (Go.bits .xor .u64 t455 (shr .u64 18446744073709551615 (wrap64 (64 - (wrap64 (8 * (wrap64 (-(wrap64 ((wrap64 (bt bt449.1 0)) - 128)))))))))) > 9223372036854775807 then (some (0, 0, 0, (⟨#[]⟩ : ByteArray), (⟨#[]⟩ : ByteArray), false)) else (some (2, wrap64 ((wrap64 (-(wrap64 (Go.bits .xor .u64 t455 (shr .u64 18446744073709551615 (wrap64 (64 - (wrap64 (8 * (wrap64 (-(wrap64 ((wrap64 (bt bt449.1 0)) - 128))))))))))))) - 1), 0, (⟨#[]⟩ : ByteArray), bt452.2.1, true))) else (some (0, 0, 0, (⟨#[]⟩ : ByteArray), (⟨#[]⟩ : ByteArray), false))) else (some (0, 0, 0, (⟨#[]⟩ : ByteArray), (⟨#[]⟩ : ByteArray), false))))) else (none))) else (some (0, 0, 0, (⟨#[]⟩ : ByteArray), (⟨#[]⟩ : ByteArray), false))))) else (if (wrap64 ((wrap64 (bt bt449.1 0)) - 128)) > 8 then (some (0, 0, 0, (⟨#[]⟩ : ByteArray), (⟨#[]⟩ : ByteArray), false)) else ((code_take.f bt449.2.1 (wrap64 ((wrap64 (bt bt449.1 0)) - 128))).bind fun bt457 => (if bt457.2.2 = true then ((code_number.f k bt457.1).bind fun t460 => ((code_size.f t460).bind fun t461 => (if t461 = (wrap64 ((wrap64 (bt bt449.1 0)) - 128)) then (if t460 > 9223372036854775807 then (some (0, 0, 0, (⟨#[]⟩ : ByteArray), (⟨#[]⟩ : ByteArray), false)) else (some (2, wrap64 (t460), 0, (⟨#[]⟩ : ByteArray), bt457.2.1, true))) else (some (0, 0, 0, (⟨#[]⟩ : ByteArray), (⟨#[]⟩ : ByteArray), false))))) else (some (0, 0, 0, (⟨#[]⟩ : ByteArray), (⟨#[]⟩ : ByteArray), false)))))) else (none)) else (some (0, 0, 0, (⟨#[]⟩ : ByteArray), (⟨#[]⟩ : ByteArray), false)))
end Go.Proofs.YtpiifdbicibelaaDoor.PA
end
