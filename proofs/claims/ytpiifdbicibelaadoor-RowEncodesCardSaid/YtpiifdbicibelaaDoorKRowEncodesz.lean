/- RowEncodes: the law returns true at every input, and its arguments read as before. Conditions: as the row has them (the listed tables as the program's text lays them). -/
import Derived.Test.YtpiifdbicibelaaDoorKRowEncodes4
section
namespace Go.Proofs.YtpiifdbicibelaaDoor.PA
open Go.RowKit Go.Proofs.YtpiifdbicibelaaDoorW.PrintWords Go.Proofs.YtpiifdbicibelaaDoorW.PrintLast Go.Proofs.YtpiifdbicibelaaDoorW.PrintMore
attribute [local go_sem] max2_int min2_int max_two min_two max_three min_three max_four min_four   -- for this text's walks alone
set_option linter.unusedVariables false
set_option linter.unusedSimpArgs false
set_option maxHeartbeats 8000000 in
set_option maxRecDepth 100000 in
theorem vellumlaw04_small.calls  (r1 : ByteArray) (r2 : List (S105)) (r3 : List Int) (r4 : List (S115)) (r5 : List (S139)) (w : World) (h : vellumlaw04_small.f  = some (r1, r2, r3, r4, r5)) :
  Calls Tryd.prog 87 #[] w fun e w' => ∃ v1_ v2_ v3_ v4_ : Value, e = .returned (.agg #[.string r1, v1_, v2_, v3_, v4_]) ∧ Kd.R k105 105 w' w.heap.size (fun _ => True) v1_ r2 ∧ Kd.R (Kd.int .i64) 3 w' w.heap.size (fun _ => True) v2_ r3 ∧ Kd.S k115 115 w' w.heap.size (fun k_ => some k_ ≠ (v2_ : Value).ownBlock) v3_ r4 ∧ Kd.S k139 139 w' w.heap.size (fun k_ => some k_ ≠ (v2_ : Value).ownBlock) v4_ r5 ∧ Below w.heap.size w w' := by
 have hu65 := Tryd.underlying65
 have hu105 := Tryd.underlying105
 have HB := Aside0.mk (Below.refl w.heap.size w)
 have H : (some ((⟨#[116]⟩ : ByteArray), (([(⟨(⟨#[97]⟩ : ByteArray), 2, false, (⟨0, 0, 0, (⟨#[]⟩ : ByteArray)⟩ : S50)⟩ : S105), (⟨(⟨#[98]⟩ : ByteArray), 4, true, (⟨0, 0, 0, (⟨#[]⟩ : ByteArray)⟩ : S50)⟩ : S105)] : List (S105))), (([0] : List Int)), ([] : List (S115)), ([] : List (S139)))) = some (r1, r2, r3, r4, r5) := h
 clear h
 obtain ⟨y711, hy711⟩ : ∃ y_ : List (S105), y_ = (([(⟨(⟨#[97]⟩ : ByteArray), 2, false, (⟨0, 0, 0, (⟨#[]⟩ : ByteArray)⟩ : S50)⟩ : S105), (⟨(⟨#[98]⟩ : ByteArray), 4, true, (⟨0, 0, 0, (⟨#[]⟩ : ByteArray)⟩ : S50)⟩ : S105)] : List (S105))) := ⟨_, rfl⟩
 replace H : (some ((⟨#[116]⟩ : ByteArray), y711, (([0] : List Int)), ([] : List (S115)), ([] : List (S139)))) = some (r1, r2, r3, r4, r5) := by first | (rw [hy711]; with_reducible exact H) | (have H2_ := (Option.bind_some _ _).symm.trans H; rw [hy711]; with_reducible exact H2_) | (have H2_ := (Option.bind_some _ _).symm.trans H; with_reducible exact H2_) | with_reducible exact H | (rw [hy711]; exact H) | exact H
 have Ny711 := Aside0.mk hy711
 clear hy711
 obtain ⟨y714, hy714⟩ : ∃ y_ : List Int, y_ = (([0] : List Int)) := ⟨_, rfl⟩
 replace H : (some ((⟨#[116]⟩ : ByteArray), y711, y714, ([] : List (S115)), ([] : List (S139)))) = some (r1, r2, r3, r4, r5) := by first | (rw [hy714]; with_reducible exact H) | (have H2_ := (Option.bind_some _ _).symm.trans H; rw [hy714]; with_reducible exact H2_) | (have H2_ := (Option.bind_some _ _).symm.trans H; with_reducible exact H2_) | with_reducible exact H | (rw [hy714]; exact H) | exact H
 have Ny714 := Aside0.mk hy714
 clear hy714
 simp only [Option.some.injEq, Prod.mk.injEq] at H
 obtain ⟨rfl, rfl, rfl, rfl, rfl⟩ := H
 go_enter Tryd.func87, Tryd.ntmps87
 go_wp2_with (first | ((with_reducible refine gate_dst (N := 0) rfl ?_); refine box_event ?hg (N := 0) ?hd (cs := #[.string (⟨#[]⟩ : ByteArray), .slice none 0 0, .slice none 0 0, .slice none 0 0, .slice none 0 0]) (t := 65) ?hr ?_; (case hd => rfl); (case hg => rfl); (case hr => first | (go_simp; done) | (go_simp; rfl)); intro gb710 hg w1 hbox hb; have n0_ := Aside0.mk (below_step (by repeat (first | (with_reducible first | exact HB.out | apply below_alloc | apply pw_below_drewN | apply below_drew1) | exact HB.out)) hb); have n1_ := Aside0.mk (hbox); have n2_ := Aside0.mk ((by rw [hg]; exact (below_size (by repeat (first | (with_reducible first | exact HB.out | apply below_alloc | apply pw_below_drewN | apply below_drew1) | exact HB.out))) : w.heap.size ≤ gb710)); have n3_ := n2_; clear HB; have HB := n0_; have BK710 := n1_; have GW710 := n2_; have GE710 := n3_; clear n0_ n1_ n2_ n3_; clear hb hbox hg) | ((with_reducible refine gate_dst (N := 3) rfl ?_); refine Kd.R_lit k105 _ 105 ?hg (N := 3) ?hd (xs := ([(⟨(⟨#[97]⟩ : ByteArray), 2, false, (⟨0, 0, 0, (⟨#[]⟩ : ByteArray)⟩ : S50)⟩ : S105), (⟨(⟨#[98]⟩ : ByteArray), 4, true, (⟨0, 0, 0, (⟨#[]⟩ : ByteArray)⟩ : S50)⟩ : S105)] : List (S105))) (inner := [.string (⟨#[97]⟩ : ByteArray), .int .i64 2, .bool false, .int .i64 0, .int .i64 0, .float .f64 0, .string (⟨#[]⟩ : ByteArray), .string (⟨#[98]⟩ : ByteArray), .int .i64 4, .bool true, .int .i64 0, .int .i64 0, .float .f64 0, .string (⟨#[]⟩ : ByteArray)]) (ok := fun _ => True) (okp := fun _ => True) ?hr ?hp (fun _ hk => hk) trivial (Below.refl _ _) (Nat.le_refl _) (by simp) ?_; (case hd => rfl); (case hg => rfl); (case hr => first | (go_simp; done) | (go_simp; rfl)); (case hp => exact (Reps.c7 (show Kd.M k105 _ _ _ (⟨(⟨#[97]⟩ : ByteArray), 2, false, (⟨0, 0, 0, (⟨#[]⟩ : ByteArray)⟩ : S50)⟩ : S105) [.string (⟨#[97]⟩ : ByteArray), .int .i64 2, .bool false, .int .i64 0, .int .i64 0, .float .f64 0, .string (⟨#[]⟩ : ByteArray)] from (k105_mkM _ _ _ (⟨(⟨#[97]⟩ : ByteArray), 2, false, (⟨0, 0, 0, (⟨#[]⟩ : ByteArray)⟩ : S50)⟩ : S105) )) (Reps.c7 (show Kd.M k105 _ _ _ (⟨(⟨#[98]⟩ : ByteArray), 4, true, (⟨0, 0, 0, (⟨#[]⟩ : ByteArray)⟩ : S50)⟩ : S105) [.string (⟨#[98]⟩ : ByteArray), .int .i64 4, .bool true, .int .i64 0, .int .i64 0, .float .f64 0, .string (⟨#[]⟩ : ByteArray)] from (k105_mkM _ _ _ (⟨(⟨#[98]⟩ : ByteArray), 4, true, (⟨0, 0, 0, (⟨#[]⟩ : ByteArray)⟩ : S50)⟩ : S105) )) (Reps.none _ _)))); intro v712 w2 ho3 hb hg_ hnew_; clear hg_ hnew_; (first | rw [← Ny711.out] at ho3 | (simp only [Int.reduceToNat] at ho3; rw [← Ny711.out] at ho3)); have n0_ := Aside0.mk (Kd.R_lower ho3 (below_size (by repeat (first | (with_reducible first | exact HB.out | apply below_alloc | apply pw_below_drewN | apply below_drew1 | refine below_set ?_ GE710.out) | exact HB.out)))); have n1_ := Aside0.mk (blk_below (g := gb710) (o := .cells #[.string (⟨#[]⟩ : ByteArray), .slice none 0 0, .slice none 0 0, .slice none 0 0, .slice none 0 0] 65 (0, 0)) (by (with_reducible repeat (first | refine blk_drewN ?_ _ | refine blk_drew ?_ | refine blk_alloc ?_ _)); exact BK710.out) hb); have n2_ := Aside0.mk (below_step (by repeat (first | (with_reducible first | exact HB.out | apply below_alloc | apply pw_below_drewN | apply below_drew1 | refine below_set ?_ GE710.out) | exact HB.out)) hb); clear BK710; clear HB; have HO713 := n0_; have BK710 := n1_; have HB := n2_; clear n0_ n1_ n2_; clear hb ho3) | ((with_reducible refine gate_dst (N := 4) rfl ?_); refine Kd.R_lit (Kd.int .i64) _ 3 ?hg (N := 4) ?hd (xs := ([0] : List Int)) (inner := [.int .i64 0]) (ok := fun _ => True) (okp := fun _ => True) ?hr ?hp (fun _ hk => hk) trivial (Below.refl _ _) (Nat.le_refl _) (by simp) ?_; (case hd => rfl); (case hg => rfl); (case hr => first | (go_simp; done) | (go_simp; rfl)); (case hp => exact (Reps.one (show Kd.M (Kd.int .i64) _ _ _ 0 [.int .i64 0] from rfl) (Reps.none _ _))); intro v715 w4 ho5 hb hg_ hnew_; clear hg_ hnew_; (first | rw [← Ny714.out] at ho5 | (simp only [Int.reduceToNat] at ho5; rw [← Ny714.out] at ho5)); have n0_ := Aside0.mk (Kd.R_below (by (with_reducible repeat (first | apply Kd.R_alloc | apply Kd.R_drewN | apply Kd.R_drew)); exact HO713.out) hb); have n1_ := Aside0.mk (Kd.R_lower ho5 (below_size (by repeat (first | (with_reducible first | exact HB.out | apply below_alloc | apply pw_below_drewN | apply below_drew1 | refine below_set ?_ GE710.out) | exact HB.out)))); have n2_ := Aside0.mk (blk_below (g := gb710) (o := .cells #[.string (⟨#[]⟩ : ByteArray), .slice none 0 0, .slice none 0 0, .slice none 0 0, .slice none 0 0] 65 (0, 0)) (by (with_reducible repeat (first | refine blk_drewN ?_ _ | refine blk_drew ?_ | refine blk_alloc ?_ _)); exact BK710.out) hb); have n3_ := Aside0.mk (below_step (by repeat (first | (with_reducible first | exact HB.out | apply below_alloc | apply pw_below_drewN | apply below_drew1 | refine below_set ?_ GE710.out) | exact HB.out)) hb); clear HO713; clear BK710; clear HB; have HO713 := n0_; have HO716 := n1_; have BK710 := n2_; have HB := n3_; clear n0_ n1_ n2_ n3_; clear hb ho5; obtain ⟨Ao6, co6, eo6⟩ := Kd.R_slice HO716.out; subst eo6; obtain ⟨Ao7, co7, eo7⟩ := Kd.R_slice HO713.out; subst eo7; have hcz8_0 : w4.cell? ⟨gb710, 0, none⟩ = some (.string (⟨#[]⟩ : ByteArray)) := (blk_cell BK710.out 0).trans rfl; have hcz8_1 : w4.cell? ⟨gb710, 1, none⟩ = some (.slice none 0 0) := (blk_cell BK710.out 1).trans rfl; have hcz8_2 : w4.cell? ⟨gb710, 2, none⟩ = some (.slice none 0 0) := (blk_cell BK710.out 2).trans rfl; have hcz8_3 : w4.cell? ⟨gb710, 3, none⟩ = some (.slice none 0 0) := (blk_cell BK710.out 3).trans rfl; have hcz8_4 : w4.cell? ⟨gb710, 4, none⟩ = some (.slice none 0 0) := (blk_cell BK710.out 4).trans rfl; have hfz8_0 := blk_frozen BK710.out 0; have hfz8_1 := blk_frozen BK710.out 1; have hfz8_2 := blk_frozen BK710.out 2; have hfz8_3 := blk_frozen BK710.out 3; have hfz8_4 := blk_frozen BK710.out 4))
 refine bodyPost_ret (results_cell_row rfl _ _ gb710 65 #[.string (⟨#[116]⟩ : ByteArray), .slice Ao7 y711.length co7, .slice Ao6 y714.length co6, .slice none 0 0, .slice none 0 0] (0, 0) _ rfl (by (with_reducible repeat (first | refine blk_drewN ?_ _ | refine blk_drew ?_ | refine blk_alloc ?_ _)); refine blk_put (cs := #[.string (⟨#[116]⟩ : ByteArray), .slice Ao7 y711.length co7, .slice Ao6 y714.length co6, .slice none 0 0, .slice none 0 0]) ?_ 4 _ rfl; (with_reducible repeat (first | refine blk_drewN ?_ _ | refine blk_drew ?_ | refine blk_alloc ?_ _)); refine blk_put (cs := #[.string (⟨#[116]⟩ : ByteArray), .slice Ao7 y711.length co7, .slice Ao6 y714.length co6, .slice none 0 0, .slice none 0 0]) ?_ 3 _ rfl; (with_reducible repeat (first | refine blk_drewN ?_ _ | refine blk_drew ?_ | refine blk_alloc ?_ _)); refine blk_put (cs := #[.string (⟨#[116]⟩ : ByteArray), .slice Ao7 y711.length co7, .slice none 0 0, .slice none 0 0, .slice none 0 0]) ?_ 2 _ rfl; (with_reducible repeat (first | refine blk_drewN ?_ _ | refine blk_drew ?_ | refine blk_alloc ?_ _)); refine blk_put (cs := #[.string (⟨#[116]⟩ : ByteArray), .slice none 0 0, .slice none 0 0, .slice none 0 0, .slice none 0 0]) ?_ 1 _ rfl; (with_reducible repeat (first | refine blk_drewN ?_ _ | refine blk_drew ?_ | refine blk_alloc ?_ _)); refine blk_put (cs := #[.string (⟨#[]⟩ : ByteArray), .slice none 0 0, .slice none 0 0, .slice none 0 0, .slice none 0 0]) ?_ 0 _ rfl; (with_reducible repeat (first | refine blk_drewN ?_ _ | refine blk_drew ?_ | refine blk_alloc ?_ _)); exact BK710.out) Tryd.underlying65 rfl (by kernel_rfl)) rfl ?_
 exact ⟨_, _, _, _, by first | rfl | (simp [errW_none, errW_some] <;> rfl) | (simp [*, errW_none, errW_some] <;> rfl), by (with_reducible repeat (first | apply Kd.R_alloc | apply Kd.R_drewN | apply Kd.R_drew)); exact Kd.R_mono (Kd.R_far (p := ⟨gb710, 4, none⟩) (Kd.R_far (p := ⟨gb710, 3, none⟩) (Kd.R_far (p := ⟨gb710, 2, none⟩) (Kd.R_far (p := ⟨gb710, 1, none⟩) (Kd.R_far (p := ⟨gb710, 0, none⟩) (Kd.R_types HO713.out BK710.out (by decide)) (fun _ hk => hk.2) (.string (⟨#[116]⟩ : ByteArray))) (fun _ hk => hk.2) (.slice Ao7 y711.length co7)) (fun _ hk => hk.2) (.slice Ao6 y714.length co6)) (fun _ hk => hk.2) (.slice none 0 0)) (fun _ hk => hk.2) (.slice none 0 0)) (fun _ hk => trivial), by (with_reducible repeat (first | apply Kd.R_alloc | apply Kd.R_drewN | apply Kd.R_drew)); exact Kd.R_mono (Kd.R_far (p := ⟨gb710, 4, none⟩) (Kd.R_far (p := ⟨gb710, 3, none⟩) (Kd.R_far (p := ⟨gb710, 2, none⟩) (Kd.R_far (p := ⟨gb710, 1, none⟩) (Kd.R_far (p := ⟨gb710, 0, none⟩) (Kd.R_types HO716.out BK710.out (by decide)) (fun _ hk => hk.2) (.string (⟨#[116]⟩ : ByteArray))) (fun _ hk => hk.2) (.slice Ao7 y711.length co7)) (fun _ hk => hk.2) (.slice Ao6 y714.length co6)) (fun _ hk => hk.2) (.slice none 0 0)) (fun _ hk => hk.2) (.slice none 0 0)) (fun _ hk => trivial), by first | exact Kd.S_nil _ _ _ _ _ | exact Kd.N_nil _ _ _ _ _ | exact Kd.V_nil _ _ _ _ _ | exact Kd.Q_nil _ _ _ _ _ | exact Kd.R_nil _ _ _ _ _, by first | exact Kd.S_nil _ _ _ _ _ | exact Kd.N_nil _ _ _ _ _ | exact Kd.V_nil _ _ _ _ _ | exact Kd.Q_nil _ _ _ _ _ | exact Kd.R_nil _ _ _ _ _, by repeat (first | (with_reducible first | exact HB.out | apply below_alloc | apply pw_below_drewN | apply below_drew1 | refine below_set ?_ GE710.out) | exact HB.out)⟩
def vellumlaw04_awake.f (k : Nat)  : Option (Bool) := (vellumlaw04_small.f).bind fun bt717 => ((row_Encode.f k bt717.1 bt717.2.1 bt717.2.2.1 bt717.2.2.2.1 bt717.2.2.2.2 (([(⟨2, 5, 0, (⟨#[]⟩ : ByteArray)⟩ : S50), (⟨4, 0, 0, (⟨#[97]⟩ : ByteArray)⟩ : S50)] : List (S50)))).bind fun bt733 => (if bt733.2 = 0 then (some (bt733.1.toList == ([5, 10, 1, 97] : List UInt8))) else (some false)))
set_option maxHeartbeats 8000000 in
set_option maxRecDepth 100000 in
theorem vellumlaw04_awake.calls (k : Nat)  (r : Bool) (w : World) (hG : Glob w) (h : vellumlaw04_awake.f k  = some r) :
  Calls Tryd.prog 54 #[] w fun e w' => e = .returned (.bool r) ∧ Below w.heap.size w w' := by
 have hu50 := Tryd.underlying50
 have HG := Aside0.mk hG
 clear hG
 have HB := Aside0.mk (Below.refl w.heap.size w)
 have H : ((vellumlaw04_small.f).bind fun bt717 => ((row_Encode.f k bt717.1 bt717.2.1 bt717.2.2.1 bt717.2.2.2.1 bt717.2.2.2.2 (([(⟨2, 5, 0, (⟨#[]⟩ : ByteArray)⟩ : S50), (⟨4, 0, 0, (⟨#[97]⟩ : ByteArray)⟩ : S50)] : List (S50)))).bind fun bt733 => (if bt733.2 = 0 then (some (bt733.1.toList == ([5, 10, 1, 97] : List UInt8))) else (some false)))) = some r := h
 clear h
 replace H := Option.bind_eq_some_iff.mp H
 obtain ⟨⟨t717, t718, t721, t724, t727⟩, A10, H⟩ := H
 replace H : ((row_Encode.f k t717 t718 t721 t724 t727 (([(⟨2, 5, 0, (⟨#[]⟩ : ByteArray)⟩ : S50), (⟨4, 0, 0, (⟨#[97]⟩ : ByteArray)⟩ : S50)] : List (S50)))).bind fun bt733 => (if bt733.2 = 0 then (some (bt733.1.toList == ([5, 10, 1, 97] : List UInt8))) else (some false))) = some r := H
 have A1 := Aside0.mk A10
 clear A10
 obtain ⟨y730, hy730⟩ : ∃ y_ : List (S50), y_ = (([(⟨2, 5, 0, (⟨#[]⟩ : ByteArray)⟩ : S50), (⟨4, 0, 0, (⟨#[97]⟩ : ByteArray)⟩ : S50)] : List (S50))) := ⟨_, rfl⟩
 replace H : ((row_Encode.f k t717 t718 t721 t724 t727 y730).bind fun bt733 => (if bt733.2 = 0 then (some (bt733.1.toList == ([5, 10, 1, 97] : List UInt8))) else (some false))) = some r := by first | (rw [hy730]; with_reducible exact H) | (have H2_ := (Option.bind_some _ _).symm.trans H; rw [hy730]; with_reducible exact H2_) | (have H2_ := (Option.bind_some _ _).symm.trans H; with_reducible exact H2_) | with_reducible exact H | (rw [hy730]; exact H) | exact H
 have Ny730 := Aside0.mk hy730
 clear hy730
 replace H := Option.bind_eq_some_iff.mp H
 obtain ⟨⟨t733, t734⟩, A20, H⟩ := H
 replace H : (if t734 = 0 then (some (t733.toList == ([5, 10, 1, 97] : List UInt8))) else (some false)) = some r := H
 have A2 := Aside0.mk A20
 clear A20
 by_cases c3 : t734 = 0
 ·rw [if_pos c3] at H
  have c3b0 : (t734 == 0) = true := beq_iff_eq.mpr c3
  have c3b1 : (t734 != 0) = false := bne_eq_false_iff_eq.mpr c3
  clear c3
  obtain rfl := Option.some.inj H
  go_enter Tryd.func54, Tryd.ntmps54
  go_wp2_with (first | ((with_reducible refine gate_callee (f := 87) rfl ?_); refine goesL_ (some 4) rfl rfl Tryd.func87 (by kernel_rfl) rfl #[] rfl (by (try simp only [List.map_toArray, List.map_cons, List.map_nil]); first | done | rfl | (simp only [List.length_drop, List.length_take]; rfl)) ?_; (with_reducible refine (vellumlaw04_small.calls  t717 t718 t721 t724 t727 _ A1.out).mono ?_); rintro e w4 ⟨v719, v722, v725, v728, rfl, ho0, ho1, ho2, ho3, hb⟩; refine ⟨_, rfl, ?_⟩; have n0_ := Aside0.mk (Kd.R_lower ho0 (below_size (by repeat (first | (with_reducible first | exact HB.out | apply below_alloc | apply pw_below_drewN | apply below_drew1) | exact HB.out)))); have n1_ := Aside0.mk (Kd.R_lower ho1 (below_size (by repeat (first | (with_reducible first | exact HB.out | apply below_alloc | apply pw_below_drewN | apply below_drew1) | exact HB.out)))); have n2_ := Aside0.mk (Kd.S_lower ho2 (below_size (by repeat (first | (with_reducible first | exact HB.out | apply below_alloc | apply pw_below_drewN | apply below_drew1) | exact HB.out)))); have n3_ := Aside0.mk (Kd.S_lower ho3 (below_size (by repeat (first | (with_reducible first | exact HB.out | apply below_alloc | apply pw_below_drewN | apply below_drew1) | exact HB.out)))); have n4_ := Aside0.mk (below_step (by repeat (first | (with_reducible first | exact HB.out | apply below_alloc | apply pw_below_drewN | apply below_drew1) | exact HB.out)) hb); clear HB; have HO720 := n0_; have HO723 := n1_; have HO726 := n2_; have HO729 := n3_; have HB := n4_; clear n0_ n1_ n2_ n3_ n4_; (try clear hb); (try clear hb2); (try clear hk); (try clear hi); (try clear ho0); (try clear ho1); (try clear ho2); (try clear ho3)) | ((with_reducible refine gate_dst (N := 7) rfl ?_); refine Kd.R_lit k50 _ 50 ?hg (N := 7) ?hd (xs := ([(⟨2, 5, 0, (⟨#[]⟩ : ByteArray)⟩ : S50), (⟨4, 0, 0, (⟨#[97]⟩ : ByteArray)⟩ : S50)] : List (S50))) (inner := [.int .i64 2, .int .i64 5, .float .f64 0, .string (⟨#[]⟩ : ByteArray), .int .i64 4, .int .i64 0, .float .f64 0, .string (⟨#[97]⟩ : ByteArray)]) (ok := fun _ => True) (okp := fun _ => True) ?hr ?hp (fun _ hk => hk) trivial (Below.refl _ _) (Nat.le_refl _) (by simp) ?_; (case hd => rfl); (case hg => rfl); (case hr => first | (go_simp; done) | (go_simp; rfl)); (case hp => exact (Reps.c4 (show Kd.M k50 _ _ _ (⟨2, 5, 0, (⟨#[]⟩ : ByteArray)⟩ : S50) [.int .i64 2, .int .i64 5, .float .f64 0, .string (⟨#[]⟩ : ByteArray)] from (k50_mkM _ _ _ (⟨2, 5, 0, (⟨#[]⟩ : ByteArray)⟩ : S50) )) (Reps.c4 (show Kd.M k50 _ _ _ (⟨4, 0, 0, (⟨#[97]⟩ : ByteArray)⟩ : S50) [.int .i64 4, .int .i64 0, .float .f64 0, .string (⟨#[97]⟩ : ByteArray)] from (k50_mkM _ _ _ (⟨4, 0, 0, (⟨#[97]⟩ : ByteArray)⟩ : S50) )) (Reps.none _ _)))); intro v731 w5 ho6 hb hg_ hnew_; clear hg_ hnew_; (first | rw [← Ny730.out] at ho6 | (simp only [Int.reduceToNat] at ho6; rw [← Ny730.out] at ho6)); have n0_ := Aside0.mk (Kd.R_below (by (with_reducible repeat (first | apply Kd.R_alloc | apply Kd.R_drewN | apply Kd.R_drew)); exact HO720.out) hb); have n1_ := Aside0.mk (Kd.R_below (by (with_reducible repeat (first | apply Kd.R_alloc | apply Kd.R_drewN | apply Kd.R_drew)); exact HO723.out) hb); have n2_ := Aside0.mk (Kd.S_below (by (with_reducible repeat (first | apply Kd.S_alloc | apply Kd.S_drewN | apply Kd.S_drew)); exact HO726.out) hb); have n3_ := Aside0.mk (Kd.S_below (by (with_reducible repeat (first | apply Kd.S_alloc | apply Kd.S_drewN | apply Kd.S_drew)); exact HO729.out) hb); have n4_ := Aside0.mk (Kd.R_lower ho6 (below_size (by repeat (first | (with_reducible first | exact HB.out | apply below_alloc | apply pw_below_drewN | apply below_drew1) | exact HB.out)))); have n5_ := Aside0.mk (below_step (by repeat (first | (with_reducible first | exact HB.out | apply below_alloc | apply pw_below_drewN | apply below_drew1) | exact HB.out)) hb); clear HO720; clear HO723; clear HO726; clear HO729; clear HB; have HO720 := n0_; have HO723 := n1_; have HO726 := n2_; have HO729 := n3_; have HO732 := n4_; have HB := n5_; clear n0_ n1_ n2_ n3_ n4_ n5_; clear hb ho6; obtain ⟨Ao7, co7, eo7⟩ := Kd.R_slice HO720.out; subst eo7; obtain ⟨Ao8, co8, eo8⟩ := Kd.R_slice HO723.out; subst eo8; obtain ⟨Ao9, co9, eo9⟩ := Kd.S_slice HO726.out; subst eo9; obtain ⟨Ao10, co10, eo10⟩ := Kd.S_slice HO729.out; subst eo10; obtain ⟨Ao11, co11, eo11⟩ := Kd.R_slice HO732.out; subst eo11) | ((with_reducible refine gate_callee (f := 52) rfl ?_); refine goesL_ (some 8) rfl rfl Tryd.func52 (by kernel_rfl) rfl #[.agg #[.string t717, .slice Ao7 t718.length co7, .slice Ao8 t721.length co8, .slice Ao9 t724.length co9, .slice Ao10 t727.length co10], .slice Ao11 y730.length co11] rfl (by (try simp only [List.map_toArray, List.map_cons, List.map_nil]); first | done | rfl | (simp only [List.length_drop, List.length_take]; rfl)) ?_; (with_reducible refine (row_Encode.calls k t717 _ _ t718 _ _ t721 _ _ t724 _ _ t727 _ _ y730 t733 t734 _ ?side1 ?side2 ?side3 ?side4 ?side5 ?side6 ?side7 ?side8 ?side9 ?side10 ?side11 A2.out).mono ?_); (case side1 => repeat (first | exact (Kd.R_reads' HO720.out).2.2 | (with_reducible refine Kd.C_alloc ?_ _) | (with_reducible refine Kd.C_drewN ?_ _) | (with_reducible refine Kd.C_drew ?_))); (case side2 => exact (Kd.R_reads' HO720.out).2.1); (case side3 => repeat (first | exact (Kd.R_reads' HO723.out).2.2 | (with_reducible refine Kd.C_alloc ?_ _) | (with_reducible refine Kd.C_drewN ?_ _) | (with_reducible refine Kd.C_drew ?_))); (case side4 => exact (Kd.R_reads' HO723.out).2.1); (case side5 => repeat (first | exact (Kd.S_reads' HO726.out).2.2 | (with_reducible refine Kd.C_alloc ?_ _) | (with_reducible refine Kd.C_drewN ?_ _) | (with_reducible refine Kd.C_drew ?_))); (case side6 => exact (Kd.S_reads' HO726.out).2.1); (case side7 => repeat (first | exact (Kd.S_reads' HO729.out).2.2 | (with_reducible refine Kd.C_alloc ?_ _) | (with_reducible refine Kd.C_drewN ?_ _) | (with_reducible refine Kd.C_drew ?_))); (case side8 => exact (Kd.S_reads' HO729.out).2.1); (case side9 => repeat (first | exact (Kd.R_reads' HO732.out).2.2 | (with_reducible refine Kd.C_alloc ?_ _) | (with_reducible refine Kd.C_drewN ?_ _) | (with_reducible refine Kd.C_drew ?_))); (case side10 => exact (Kd.R_reads' HO732.out).2.1); (case side11 => exact Glob.below HG.out (by repeat (first | (with_reducible first | exact HB.out | apply below_alloc | apply pw_below_drewN | apply below_drew1) | exact HB.out))); rintro e w12 ⟨rfl, hb⟩; refine ⟨_, rfl, ?_⟩; have n0_ := Aside0.mk (Kd.R_below (by (with_reducible repeat (first | apply Kd.R_alloc | apply Kd.R_drewN | apply Kd.R_drew)); exact HO720.out) hb); have n1_ := Aside0.mk (Kd.R_below (by (with_reducible repeat (first | apply Kd.R_alloc | apply Kd.R_drewN | apply Kd.R_drew)); exact HO723.out) hb); have n2_ := Aside0.mk (Kd.S_below (by (with_reducible repeat (first | apply Kd.S_alloc | apply Kd.S_drewN | apply Kd.S_drew)); exact HO726.out) hb); have n3_ := Aside0.mk (Kd.S_below (by (with_reducible repeat (first | apply Kd.S_alloc | apply Kd.S_drewN | apply Kd.S_drew)); exact HO729.out) hb); have n4_ := Aside0.mk (Kd.R_below (by (with_reducible repeat (first | apply Kd.R_alloc | apply Kd.R_drewN | apply Kd.R_drew)); exact HO732.out) hb); have n5_ := Aside0.mk (below_step (by repeat (first | (with_reducible first | exact HB.out | apply below_alloc | apply pw_below_drewN | apply below_drew1) | exact HB.out)) hb); clear HO720; clear HO723; clear HO726; clear HO729; clear HO732; clear HB; have HO720 := n0_; have HO723 := n1_; have HO726 := n2_; have HO729 := n3_; have HO732 := n4_; have HB := n5_; clear n0_ n1_ n2_ n3_ n4_ n5_; (try clear hb); (try clear hb2); (try clear hk); (try clear hi)))
  go_ret
  exact ⟨by first | rfl | (simp [errW_none, errW_some] <;> rfl) | (simp [*, errW_none, errW_some] <;> rfl), by repeat (first | (with_reducible first | exact HB.out | apply below_alloc | apply pw_below_drewN | apply below_drew1) | exact HB.out)⟩
 ·rw [if_neg c3] at H
  have c3b0 : (t734 == 0) = false := beq_eq_false_iff_ne.mpr c3
  have c3b1 : (t734 != 0) = true := bne_iff_ne.mpr c3
  obtain rfl := Option.some.inj H
  go_enter Tryd.func54, Tryd.ntmps54
  go_wp2_with (first | ((with_reducible refine gate_callee (f := 87) rfl ?_); refine goesL_ (some 4) rfl rfl Tryd.func87 (by kernel_rfl) rfl #[] rfl (by (try simp only [List.map_toArray, List.map_cons, List.map_nil]); first | done | rfl | (simp only [List.length_drop, List.length_take]; rfl)) ?_; (with_reducible refine (vellumlaw04_small.calls  t717 t718 t721 t724 t727 _ A1.out).mono ?_); rintro e w13 ⟨v719, v722, v725, v728, rfl, ho0, ho1, ho2, ho3, hb⟩; refine ⟨_, rfl, ?_⟩; have n0_ := Aside0.mk (Kd.R_lower ho0 (below_size (by repeat (first | (with_reducible first | exact HB.out | apply below_alloc | apply pw_below_drewN | apply below_drew1) | exact HB.out)))); have n1_ := Aside0.mk (Kd.R_lower ho1 (below_size (by repeat (first | (with_reducible first | exact HB.out | apply below_alloc | apply pw_below_drewN | apply below_drew1) | exact HB.out)))); have n2_ := Aside0.mk (Kd.S_lower ho2 (below_size (by repeat (first | (with_reducible first | exact HB.out | apply below_alloc | apply pw_below_drewN | apply below_drew1) | exact HB.out)))); have n3_ := Aside0.mk (Kd.S_lower ho3 (below_size (by repeat (first | (with_reducible first | exact HB.out | apply below_alloc | apply pw_below_drewN | apply below_drew1) | exact HB.out)))); have n4_ := Aside0.mk (below_step (by repeat (first | (with_reducible first | exact HB.out | apply below_alloc | apply pw_below_drewN | apply below_drew1) | exact HB.out)) hb); clear HB; have HO720 := n0_; have HO723 := n1_; have HO726 := n2_; have HO729 := n3_; have HB := n4_; clear n0_ n1_ n2_ n3_ n4_; (try clear hb); (try clear hb2); (try clear hk); (try clear hi); (try clear ho0); (try clear ho1); (try clear ho2); (try clear ho3)) | ((with_reducible refine gate_dst (N := 7) rfl ?_); refine Kd.R_lit k50 _ 50 ?hg (N := 7) ?hd (xs := ([(⟨2, 5, 0, (⟨#[]⟩ : ByteArray)⟩ : S50), (⟨4, 0, 0, (⟨#[97]⟩ : ByteArray)⟩ : S50)] : List (S50))) (inner := [.int .i64 2, .int .i64 5, .float .f64 0, .string (⟨#[]⟩ : ByteArray), .int .i64 4, .int .i64 0, .float .f64 0, .string (⟨#[97]⟩ : ByteArray)]) (ok := fun _ => True) (okp := fun _ => True) ?hr ?hp (fun _ hk => hk) trivial (Below.refl _ _) (Nat.le_refl _) (by simp) ?_; (case hd => rfl); (case hg => rfl); (case hr => first | (go_simp; done) | (go_simp; rfl)); (case hp => exact (Reps.c4 (show Kd.M k50 _ _ _ (⟨2, 5, 0, (⟨#[]⟩ : ByteArray)⟩ : S50) [.int .i64 2, .int .i64 5, .float .f64 0, .string (⟨#[]⟩ : ByteArray)] from (k50_mkM _ _ _ (⟨2, 5, 0, (⟨#[]⟩ : ByteArray)⟩ : S50) )) (Reps.c4 (show Kd.M k50 _ _ _ (⟨4, 0, 0, (⟨#[97]⟩ : ByteArray)⟩ : S50) [.int .i64 4, .int .i64 0, .float .f64 0, .string (⟨#[97]⟩ : ByteArray)] from (k50_mkM _ _ _ (⟨4, 0, 0, (⟨#[97]⟩ : ByteArray)⟩ : S50) )) (Reps.none _ _)))); intro v731 w14 ho15 hb hg_ hnew_; clear hg_ hnew_; (first | rw [← Ny730.out] at ho15 | (simp only [Int.reduceToNat] at ho15; rw [← Ny730.out] at ho15)); have n0_ := Aside0.mk (Kd.R_below (by (with_reducible repeat (first | apply Kd.R_alloc | apply Kd.R_drewN | apply Kd.R_drew)); exact HO720.out) hb); have n1_ := Aside0.mk (Kd.R_below (by (with_reducible repeat (first | apply Kd.R_alloc | apply Kd.R_drewN | apply Kd.R_drew)); exact HO723.out) hb); have n2_ := Aside0.mk (Kd.S_below (by (with_reducible repeat (first | apply Kd.S_alloc | apply Kd.S_drewN | apply Kd.S_drew)); exact HO726.out) hb); have n3_ := Aside0.mk (Kd.S_below (by (with_reducible repeat (first | apply Kd.S_alloc | apply Kd.S_drewN | apply Kd.S_drew)); exact HO729.out) hb); have n4_ := Aside0.mk (Kd.R_lower ho15 (below_size (by repeat (first | (with_reducible first | exact HB.out | apply below_alloc | apply pw_below_drewN | apply below_drew1) | exact HB.out)))); have n5_ := Aside0.mk (below_step (by repeat (first | (with_reducible first | exact HB.out | apply below_alloc | apply pw_below_drewN | apply below_drew1) | exact HB.out)) hb); clear HO720; clear HO723; clear HO726; clear HO729; clear HB; have HO720 := n0_; have HO723 := n1_; have HO726 := n2_; have HO729 := n3_; have HO732 := n4_; have HB := n5_; clear n0_ n1_ n2_ n3_ n4_ n5_; clear hb ho15; obtain ⟨Ao16, co16, eo16⟩ := Kd.R_slice HO720.out; subst eo16; obtain ⟨Ao17, co17, eo17⟩ := Kd.R_slice HO723.out; subst eo17; obtain ⟨Ao18, co18, eo18⟩ := Kd.S_slice HO726.out; subst eo18; obtain ⟨Ao19, co19, eo19⟩ := Kd.S_slice HO729.out; subst eo19; obtain ⟨Ao20, co20, eo20⟩ := Kd.R_slice HO732.out; subst eo20) | ((with_reducible refine gate_callee (f := 52) rfl ?_); refine goesL_ (some 8) rfl rfl Tryd.func52 (by kernel_rfl) rfl #[.agg #[.string t717, .slice Ao16 t718.length co16, .slice Ao17 t721.length co17, .slice Ao18 t724.length co18, .slice Ao19 t727.length co19], .slice Ao20 y730.length co20] rfl (by (try simp only [List.map_toArray, List.map_cons, List.map_nil]); first | done | rfl | (simp only [List.length_drop, List.length_take]; rfl)) ?_; (with_reducible refine (row_Encode.calls k t717 _ _ t718 _ _ t721 _ _ t724 _ _ t727 _ _ y730 t733 t734 _ ?side1 ?side2 ?side3 ?side4 ?side5 ?side6 ?side7 ?side8 ?side9 ?side10 ?side11 A2.out).mono ?_); (case side1 => repeat (first | exact (Kd.R_reads' HO720.out).2.2 | (with_reducible refine Kd.C_alloc ?_ _) | (with_reducible refine Kd.C_drewN ?_ _) | (with_reducible refine Kd.C_drew ?_))); (case side2 => exact (Kd.R_reads' HO720.out).2.1); (case side3 => repeat (first | exact (Kd.R_reads' HO723.out).2.2 | (with_reducible refine Kd.C_alloc ?_ _) | (with_reducible refine Kd.C_drewN ?_ _) | (with_reducible refine Kd.C_drew ?_))); (case side4 => exact (Kd.R_reads' HO723.out).2.1); (case side5 => repeat (first | exact (Kd.S_reads' HO726.out).2.2 | (with_reducible refine Kd.C_alloc ?_ _) | (with_reducible refine Kd.C_drewN ?_ _) | (with_reducible refine Kd.C_drew ?_))); (case side6 => exact (Kd.S_reads' HO726.out).2.1); (case side7 => repeat (first | exact (Kd.S_reads' HO729.out).2.2 | (with_reducible refine Kd.C_alloc ?_ _) | (with_reducible refine Kd.C_drewN ?_ _) | (with_reducible refine Kd.C_drew ?_))); (case side8 => exact (Kd.S_reads' HO729.out).2.1); (case side9 => repeat (first | exact (Kd.R_reads' HO732.out).2.2 | (with_reducible refine Kd.C_alloc ?_ _) | (with_reducible refine Kd.C_drewN ?_ _) | (with_reducible refine Kd.C_drew ?_))); (case side10 => exact (Kd.R_reads' HO732.out).2.1); (case side11 => exact Glob.below HG.out (by repeat (first | (with_reducible first | exact HB.out | apply below_alloc | apply pw_below_drewN | apply below_drew1) | exact HB.out))); rintro e w21 ⟨rfl, hb⟩; refine ⟨_, rfl, ?_⟩; have n0_ := Aside0.mk (Kd.R_below (by (with_reducible repeat (first | apply Kd.R_alloc | apply Kd.R_drewN | apply Kd.R_drew)); exact HO720.out) hb); have n1_ := Aside0.mk (Kd.R_below (by (with_reducible repeat (first | apply Kd.R_alloc | apply Kd.R_drewN | apply Kd.R_drew)); exact HO723.out) hb); have n2_ := Aside0.mk (Kd.S_below (by (with_reducible repeat (first | apply Kd.S_alloc | apply Kd.S_drewN | apply Kd.S_drew)); exact HO726.out) hb); have n3_ := Aside0.mk (Kd.S_below (by (with_reducible repeat (first | apply Kd.S_alloc | apply Kd.S_drewN | apply Kd.S_drew)); exact HO729.out) hb); have n4_ := Aside0.mk (Kd.R_below (by (with_reducible repeat (first | apply Kd.R_alloc | apply Kd.R_drewN | apply Kd.R_drew)); exact HO732.out) hb); have n5_ := Aside0.mk (below_step (by repeat (first | (with_reducible first | exact HB.out | apply below_alloc | apply pw_below_drewN | apply below_drew1) | exact HB.out)) hb); clear HO720; clear HO723; clear HO726; clear HO729; clear HO732; clear HB; have HO720 := n0_; have HO723 := n1_; have HO726 := n2_; have HO729 := n3_; have HO732 := n4_; have HB := n5_; clear n0_ n1_ n2_ n3_ n4_ n5_; (try clear hb); (try clear hb2); (try clear hk); (try clear hi)))
  go_ret
  exact ⟨by first | rfl | (simp [errW_none, errW_some] <;> rfl) | (simp [*, errW_none, errW_some] <;> rfl), by repeat (first | (with_reducible first | exact HB.out | apply below_alloc | apply pw_below_drewN | apply below_drew1) | exact HB.out)⟩
def vellumlaw04_RowEncodes.f (k : Nat) (a0_0 : ByteArray) (l0_1 : List (S105)) (l0_2 : List Int) (l0_3 : List (S115)) (l0_4 : List (S139)) (l1 : List (S50)) : Option (Bool) := (row_Encode.f k a0_0 l0_1 l0_2 l0_3 l0_4 l1).bind fun bt736 => ((vellumref04_Encode.f k a0_0 l0_1 l0_2 l0_3 l0_4 l1).bind fun bt738 => (if bt736.1.toList = bt738.1.toList then (if bt736.2 = bt738.2 then ((vellumlaw04_awake.f k).bind fun t740 => (some t740)) else (some false)) else (some false)))
set_option maxHeartbeats 8000000 in
set_option maxRecDepth 100000 in
theorem vellumlaw04_RowEncodes.calls (k : Nat) (a0_0 : ByteArray) (A0_1 : Option Addr) (c0_1 : Nat) (l0_1 : List (S105)) (A0_2 : Option Addr) (c0_2 : Nat) (l0_2 : List Int) (A0_3 : Option Addr) (c0_3 : Nat) (l0_3 : List (S115)) (A0_4 : Option Addr) (c0_4 : Nat) (l0_4 : List (S139)) (A1 : Option Addr) (c1 : Nat) (l1 : List (S50)) (r : Bool) (w : World) (hr0_1 : Kd.C k105 w A0_1 l0_1.length l0_1) (hc0_1 : l0_1.length ≤ c0_1) (hr0_2 : Kd.C (Kd.int .i64) w A0_2 l0_2.length l0_2) (hc0_2 : l0_2.length ≤ c0_2) (hr0_3 : Kd.C k115 w A0_3 l0_3.length l0_3) (hc0_3 : l0_3.length ≤ c0_3) (hr0_4 : Kd.C k139 w A0_4 l0_4.length l0_4) (hc0_4 : l0_4.length ≤ c0_4) (hr1 : Kd.C k50 w A1 l1.length l1) (hc1 : l1.length ≤ c1) (hG : Glob w) (h : vellumlaw04_RowEncodes.f k a0_0 l0_1 l0_2 l0_3 l0_4 l1 = some r) :
  Calls Tryd.prog 13 #[.agg #[.string a0_0, .slice A0_1 l0_1.length c0_1, .slice A0_2 l0_2.length c0_2, .slice A0_3 l0_3.length c0_3, .slice A0_4 l0_4.length c0_4], .slice A1 l1.length c1] w fun e w' => e = .returned (.bool r) ∧ Below w.heap.size w w' := by
 have hu65 := Tryd.underlying65
 have HR0_1 := Aside0.mk hr0_1
 have HC0_1 := Aside0.mk hc0_1
 clear hr0_1 hc0_1
 have HR0_2 := Aside0.mk hr0_2
 have HC0_2 := Aside0.mk hc0_2
 clear hr0_2 hc0_2
 have HR0_3 := Aside0.mk hr0_3
 have HC0_3 := Aside0.mk hc0_3
 clear hr0_3 hc0_3
 have HR0_4 := Aside0.mk hr0_4
 have HC0_4 := Aside0.mk hc0_4
 clear hr0_4 hc0_4
 have HR1 := Aside0.mk hr1
 have HC1 := Aside0.mk hc1
 clear hr1 hc1
 have HG := Aside0.mk hG
 clear hG
 have HB := Aside0.mk (Below.refl w.heap.size w)
 have H : ((row_Encode.f k a0_0 l0_1 l0_2 l0_3 l0_4 l1).bind fun bt736 => ((vellumref04_Encode.f k a0_0 l0_1 l0_2 l0_3 l0_4 l1).bind fun bt738 => (if bt736.1.toList = bt738.1.toList then (if bt736.2 = bt738.2 then ((vellumlaw04_awake.f k).bind fun t740 => (some t740)) else (some false)) else (some false)))) = some r := h
 clear h
 replace H := Option.bind_eq_some_iff.mp H
 obtain ⟨⟨t736, t737⟩, A30, H⟩ := H
 replace H : ((vellumref04_Encode.f k a0_0 l0_1 l0_2 l0_3 l0_4 l1).bind fun bt738 => (if t736.toList = bt738.1.toList then (if t737 = bt738.2 then ((vellumlaw04_awake.f k).bind fun t740 => (some t740)) else (some false)) else (some false))) = some r := H
 have A3 := Aside0.mk A30
 clear A30
 replace H := Option.bind_eq_some_iff.mp H
 obtain ⟨⟨t738, t739⟩, A40, H⟩ := H
 replace H : (if t736.toList = t738.toList then (if t737 = t739 then ((vellumlaw04_awake.f k).bind fun t740 => (some t740)) else (some false)) else (some false)) = some r := H
 have A4 := Aside0.mk A40
 clear A40
 by_cases c5 : t736.toList = t738.toList
 ·rw [if_pos c5] at H
  have c5b0 : (t736.toList == t738.toList) = true := beq_iff_eq.mpr c5
  have c5b1 : (t736.toList != t738.toList) = false := bne_eq_false_iff_eq.mpr c5
  clear c5
  by_cases c6 : t737 = t739
  ·rw [if_pos c6] at H
   have c6b0 : (t737 == t739) = true := beq_iff_eq.mpr c6
   have c6b1 : (t737 != t739) = false := bne_eq_false_iff_eq.mpr c6
   clear c6
   replace H := Option.bind_eq_some_iff.mp H
   obtain ⟨t740, A70, H⟩ := H
   replace H : (some t740) = some r := H
   have A7 := Aside0.mk A70
   clear A70
   obtain rfl := Option.some.inj H
   go_enter Tryd.func13, Tryd.ntmps13
   go_wp2_with (first | ((with_reducible refine gate_dst (N := 2) rfl ?_); refine box_event ?hg (N := 2) ?hd (cs := #[.string a0_0, .slice A0_1 l0_1.length c0_1, .slice A0_2 l0_2.length c0_2, .slice A0_3 l0_3.length c0_3, .slice A0_4 l0_4.length c0_4]) (t := 65) ?hr ?_; (case hd => rfl); (case hg => rfl); (case hr => first | (go_simp; done) | (go_simp; rfl)); intro gb735 hg w8 hbox hb; have n0_ := Aside0.mk (below_step (by repeat (first | (with_reducible first | exact HB.out | apply below_alloc | apply pw_below_drewN | apply below_drew1) | exact HB.out)) hb); have n1_ := Aside0.mk (hbox); have n2_ := Aside0.mk ((by rw [hg]; exact (below_size (by repeat (first | (with_reducible first | exact HB.out | apply below_alloc | apply pw_below_drewN | apply below_drew1) | exact HB.out))) : w.heap.size ≤ gb735)); have n3_ := n2_; clear HB; have HB := n0_; have BK735 := n1_; have GW735 := n2_; have GE735 := n3_; clear n0_ n1_ n2_ n3_; clear hb hbox hg; have hcz9_0 : w8.cell? ⟨gb735, 0, none⟩ = some (.string a0_0) := (blk_cell BK735.out 0).trans rfl; have hcz9_1 : w8.cell? ⟨gb735, 1, none⟩ = some (.slice A0_1 l0_1.length c0_1) := (blk_cell BK735.out 1).trans rfl; have hcz9_2 : w8.cell? ⟨gb735, 2, none⟩ = some (.slice A0_2 l0_2.length c0_2) := (blk_cell BK735.out 2).trans rfl; have hcz9_3 : w8.cell? ⟨gb735, 3, none⟩ = some (.slice A0_3 l0_3.length c0_3) := (blk_cell BK735.out 3).trans rfl; have hcz9_4 : w8.cell? ⟨gb735, 4, none⟩ = some (.slice A0_4 l0_4.length c0_4) := (blk_cell BK735.out 4).trans rfl; have hfz9_0 := blk_frozen BK735.out 0; have hfz9_1 := blk_frozen BK735.out 1; have hfz9_2 := blk_frozen BK735.out 2; have hfz9_3 := blk_frozen BK735.out 3; have hfz9_4 := blk_frozen BK735.out 4) | ((with_reducible refine gate_callee (f := 52) rfl ?_); refine goesL_ (some 12) rfl rfl Tryd.func52 (by kernel_rfl) rfl #[.agg #[.string a0_0, .slice A0_1 l0_1.length c0_1, .slice A0_2 l0_2.length c0_2, .slice A0_3 l0_3.length c0_3, .slice A0_4 l0_4.length c0_4], .slice A1 l1.length c1] rfl (by (try simp only [List.map_toArray, List.map_cons, List.map_nil]); first | done | rfl | (simp only [List.length_drop, List.length_take]; rfl)) ?_; (with_reducible refine (row_Encode.calls k a0_0 _ _ l0_1 _ _ l0_2 _ _ l0_3 _ _ l0_4 _ _ l1 t736 t737 _ ?side1 ?side2 ?side3 ?side4 ?side5 ?side6 ?side7 ?side8 ?side9 ?side10 ?side11 A3.out).mono ?_); (case side1 => repeat (first | exact (Kd.C_below HR0_1.out HB.out) | (with_reducible refine Kd.C_alloc ?_ _) | (with_reducible refine Kd.C_drewN ?_ _) | (with_reducible refine Kd.C_drew ?_))); (case side2 => exact HC0_1.out); (case side3 => repeat (first | exact (Kd.C_below HR0_2.out HB.out) | (with_reducible refine Kd.C_alloc ?_ _) | (with_reducible refine Kd.C_drewN ?_ _) | (with_reducible refine Kd.C_drew ?_))); (case side4 => exact HC0_2.out); (case side5 => repeat (first | exact (Kd.C_below HR0_3.out HB.out) | (with_reducible refine Kd.C_alloc ?_ _) | (with_reducible refine Kd.C_drewN ?_ _) | (with_reducible refine Kd.C_drew ?_))); (case side6 => exact HC0_3.out); (case side7 => repeat (first | exact (Kd.C_below HR0_4.out HB.out) | (with_reducible refine Kd.C_alloc ?_ _) | (with_reducible refine Kd.C_drewN ?_ _) | (with_reducible refine Kd.C_drew ?_))); (case side8 => exact HC0_4.out); (case side9 => repeat (first | exact (Kd.C_below HR1.out HB.out) | (with_reducible refine Kd.C_alloc ?_ _) | (with_reducible refine Kd.C_drewN ?_ _) | (with_reducible refine Kd.C_drew ?_))); (case side10 => exact HC1.out); (case side11 => exact Glob.below HG.out (by repeat (first | (with_reducible first | exact HB.out | apply below_alloc | apply pw_below_drewN | apply below_drew1 | refine below_set ?_ GE735.out) | exact HB.out))); rintro e w10 ⟨rfl, hb⟩; refine ⟨_, rfl, ?_⟩; have n0_ := Aside0.mk (blk_below (g := gb735) (o := .cells #[.string a0_0, .slice A0_1 l0_1.length c0_1, .slice A0_2 l0_2.length c0_2, .slice A0_3 l0_3.length c0_3, .slice A0_4 l0_4.length c0_4] 65 (0, 0)) (by (with_reducible repeat (first | refine blk_drewN ?_ _ | refine blk_drew ?_ | refine blk_alloc ?_ _)); exact BK735.out) hb); have n1_ := Aside0.mk (below_step (by repeat (first | (with_reducible first | exact HB.out | apply below_alloc | apply pw_below_drewN | apply below_drew1 | refine below_set ?_ GE735.out) | exact HB.out)) hb); clear BK735; clear HB; have BK735 := n0_; have HB := n1_; clear n0_ n1_; (try clear hb); (try clear hb2); (try clear hk); (try clear hi); have hcz11_0 : w10.cell? ⟨gb735, 0, none⟩ = some (.string a0_0) := (blk_cell BK735.out 0).trans rfl; have hcz11_1 : w10.cell? ⟨gb735, 1, none⟩ = some (.slice A0_1 l0_1.length c0_1) := (blk_cell BK735.out 1).trans rfl; have hcz11_2 : w10.cell? ⟨gb735, 2, none⟩ = some (.slice A0_2 l0_2.length c0_2) := (blk_cell BK735.out 2).trans rfl; have hcz11_3 : w10.cell? ⟨gb735, 3, none⟩ = some (.slice A0_3 l0_3.length c0_3) := (blk_cell BK735.out 3).trans rfl; have hcz11_4 : w10.cell? ⟨gb735, 4, none⟩ = some (.slice A0_4 l0_4.length c0_4) := (blk_cell BK735.out 4).trans rfl; have hfz11_0 := blk_frozen BK735.out 0; have hfz11_1 := blk_frozen BK735.out 1; have hfz11_2 := blk_frozen BK735.out 2; have hfz11_3 := blk_frozen BK735.out 3; have hfz11_4 := blk_frozen BK735.out 4) | ((with_reducible refine gate_callee (f := 53) rfl ?_); refine goesL_ (some 18) rfl rfl Tryd.func53 (by kernel_rfl) rfl #[.agg #[.string a0_0, .slice A0_1 l0_1.length c0_1, .slice A0_2 l0_2.length c0_2, .slice A0_3 l0_3.length c0_3, .slice A0_4 l0_4.length c0_4], .slice A1 l1.length c1] rfl (by (try simp only [List.map_toArray, List.map_cons, List.map_nil]); first | done | rfl | (simp only [List.length_drop, List.length_take]; rfl)) ?_; (with_reducible refine (vellumref04_Encode.calls k a0_0 _ _ l0_1 _ _ l0_2 _ _ l0_3 _ _ l0_4 _ _ l1 t738 t739 _ ?side1 ?side2 ?side3 ?side4 ?side5 ?side6 ?side7 ?side8 ?side9 ?side10 ?side11 A4.out).mono ?_); (case side1 => repeat (first | exact (Kd.C_below HR0_1.out HB.out) | (with_reducible refine Kd.C_alloc ?_ _) | (with_reducible refine Kd.C_drewN ?_ _) | (with_reducible refine Kd.C_drew ?_))); (case side2 => exact HC0_1.out); (case side3 => repeat (first | exact (Kd.C_below HR0_2.out HB.out) | (with_reducible refine Kd.C_alloc ?_ _) | (with_reducible refine Kd.C_drewN ?_ _) | (with_reducible refine Kd.C_drew ?_))); (case side4 => exact HC0_2.out); (case side5 => repeat (first | exact (Kd.C_below HR0_3.out HB.out) | (with_reducible refine Kd.C_alloc ?_ _) | (with_reducible refine Kd.C_drewN ?_ _) | (with_reducible refine Kd.C_drew ?_))); (case side6 => exact HC0_3.out); (case side7 => repeat (first | exact (Kd.C_below HR0_4.out HB.out) | (with_reducible refine Kd.C_alloc ?_ _) | (with_reducible refine Kd.C_drewN ?_ _) | (with_reducible refine Kd.C_drew ?_))); (case side8 => exact HC0_4.out); (case side9 => repeat (first | exact (Kd.C_below HR1.out HB.out) | (with_reducible refine Kd.C_alloc ?_ _) | (with_reducible refine Kd.C_drewN ?_ _) | (with_reducible refine Kd.C_drew ?_))); (case side10 => exact HC1.out); (case side11 => exact Glob.below HG.out (by repeat (first | (with_reducible first | exact HB.out | apply below_alloc | apply pw_below_drewN | apply below_drew1 | refine below_set ?_ GE735.out) | exact HB.out))); rintro e w12 ⟨rfl, hb⟩; refine ⟨_, rfl, ?_⟩; have n0_ := Aside0.mk (blk_below (g := gb735) (o := .cells #[.string a0_0, .slice A0_1 l0_1.length c0_1, .slice A0_2 l0_2.length c0_2, .slice A0_3 l0_3.length c0_3, .slice A0_4 l0_4.length c0_4] 65 (0, 0)) (by (with_reducible repeat (first | refine blk_drewN ?_ _ | refine blk_drew ?_ | refine blk_alloc ?_ _)); exact BK735.out) hb); have n1_ := Aside0.mk (below_step (by repeat (first | (with_reducible first | exact HB.out | apply below_alloc | apply pw_below_drewN | apply below_drew1 | refine below_set ?_ GE735.out) | exact HB.out)) hb); clear BK735; clear HB; have BK735 := n0_; have HB := n1_; clear n0_ n1_; (try clear hb); (try clear hb2); (try clear hk); (try clear hi)) | (go_at_call 54; (with_reducible refine (vellumlaw04_awake.calls k  t740 _ ?side1 A7.out).mono ?_); (case side1 => exact Glob.below HG.out (by repeat (first | (with_reducible first | exact HB.out | apply below_alloc | apply pw_below_drewN | apply below_drew1 | refine below_set ?_ GE735.out) | exact HB.out))); rintro e w13 ⟨rfl, hb⟩; have n0_ := Aside0.mk (blk_below (g := gb735) (o := .cells #[.string a0_0, .slice A0_1 l0_1.length c0_1, .slice A0_2 l0_2.length c0_2, .slice A0_3 l0_3.length c0_3, .slice A0_4 l0_4.length c0_4] 65 (0, 0)) (by (with_reducible repeat (first | refine blk_drewN ?_ _ | refine blk_drew ?_ | refine blk_alloc ?_ _)); exact BK735.out) hb); have n1_ := Aside0.mk (below_step (by repeat (first | (with_reducible first | exact HB.out | apply below_alloc | apply pw_below_drewN | apply below_drew1 | refine below_set ?_ GE735.out) | exact HB.out)) hb); clear BK735; clear HB; have BK735 := n0_; have HB := n1_; clear n0_ n1_; (try clear hb); (try clear hb2); (try clear hk); (try clear hi)))
   go_ret
   exact ⟨by first | rfl | (simp [errW_none, errW_some] <;> rfl) | (simp [*, errW_none, errW_some] <;> rfl), by repeat (first | (with_reducible first | exact HB.out | apply below_alloc | apply pw_below_drewN | apply below_drew1 | refine below_set ?_ GE735.out) | exact HB.out)⟩
  ·rw [if_neg c6] at H
   have c6b0 : (t737 == t739) = false := beq_eq_false_iff_ne.mpr c6
   have c6b1 : (t737 != t739) = true := bne_iff_ne.mpr c6
   obtain rfl := Option.some.inj H
   go_enter Tryd.func13, Tryd.ntmps13
   go_wp2_with (first | ((with_reducible refine gate_dst (N := 2) rfl ?_); refine box_event ?hg (N := 2) ?hd (cs := #[.string a0_0, .slice A0_1 l0_1.length c0_1, .slice A0_2 l0_2.length c0_2, .slice A0_3 l0_3.length c0_3, .slice A0_4 l0_4.length c0_4]) (t := 65) ?hr ?_; (case hd => rfl); (case hg => rfl); (case hr => first | (go_simp; done) | (go_simp; rfl)); intro gb735 hg w14 hbox hb; have n0_ := Aside0.mk (below_step (by repeat (first | (with_reducible first | exact HB.out | apply below_alloc | apply pw_below_drewN | apply below_drew1) | exact HB.out)) hb); have n1_ := Aside0.mk (hbox); have n2_ := Aside0.mk ((by rw [hg]; exact (below_size (by repeat (first | (with_reducible first | exact HB.out | apply below_alloc | apply pw_below_drewN | apply below_drew1) | exact HB.out))) : w.heap.size ≤ gb735)); have n3_ := n2_; clear HB; have HB := n0_; have BK735 := n1_; have GW735 := n2_; have GE735 := n3_; clear n0_ n1_ n2_ n3_; clear hb hbox hg; have hcz15_0 : w14.cell? ⟨gb735, 0, none⟩ = some (.string a0_0) := (blk_cell BK735.out 0).trans rfl; have hcz15_1 : w14.cell? ⟨gb735, 1, none⟩ = some (.slice A0_1 l0_1.length c0_1) := (blk_cell BK735.out 1).trans rfl; have hcz15_2 : w14.cell? ⟨gb735, 2, none⟩ = some (.slice A0_2 l0_2.length c0_2) := (blk_cell BK735.out 2).trans rfl; have hcz15_3 : w14.cell? ⟨gb735, 3, none⟩ = some (.slice A0_3 l0_3.length c0_3) := (blk_cell BK735.out 3).trans rfl; have hcz15_4 : w14.cell? ⟨gb735, 4, none⟩ = some (.slice A0_4 l0_4.length c0_4) := (blk_cell BK735.out 4).trans rfl; have hfz15_0 := blk_frozen BK735.out 0; have hfz15_1 := blk_frozen BK735.out 1; have hfz15_2 := blk_frozen BK735.out 2; have hfz15_3 := blk_frozen BK735.out 3; have hfz15_4 := blk_frozen BK735.out 4) | ((with_reducible refine gate_callee (f := 52) rfl ?_); refine goesL_ (some 12) rfl rfl Tryd.func52 (by kernel_rfl) rfl #[.agg #[.string a0_0, .slice A0_1 l0_1.length c0_1, .slice A0_2 l0_2.length c0_2, .slice A0_3 l0_3.length c0_3, .slice A0_4 l0_4.length c0_4], .slice A1 l1.length c1] rfl (by (try simp only [List.map_toArray, List.map_cons, List.map_nil]); first | done | rfl | (simp only [List.length_drop, List.length_take]; rfl)) ?_; (with_reducible refine (row_Encode.calls k a0_0 _ _ l0_1 _ _ l0_2 _ _ l0_3 _ _ l0_4 _ _ l1 t736 t737 _ ?side1 ?side2 ?side3 ?side4 ?side5 ?side6 ?side7 ?side8 ?side9 ?side10 ?side11 A3.out).mono ?_); (case side1 => repeat (first | exact (Kd.C_below HR0_1.out HB.out) | (with_reducible refine Kd.C_alloc ?_ _) | (with_reducible refine Kd.C_drewN ?_ _) | (with_reducible refine Kd.C_drew ?_))); (case side2 => exact HC0_1.out); (case side3 => repeat (first | exact (Kd.C_below HR0_2.out HB.out) | (with_reducible refine Kd.C_alloc ?_ _) | (with_reducible refine Kd.C_drewN ?_ _) | (with_reducible refine Kd.C_drew ?_))); (case side4 => exact HC0_2.out); (case side5 => repeat (first | exact (Kd.C_below HR0_3.out HB.out) | (with_reducible refine Kd.C_alloc ?_ _) | (with_reducible refine Kd.C_drewN ?_ _) | (with_reducible refine Kd.C_drew ?_))); (case side6 => exact HC0_3.out); (case side7 => repeat (first | exact (Kd.C_below HR0_4.out HB.out) | (with_reducible refine Kd.C_alloc ?_ _) | (with_reducible refine Kd.C_drewN ?_ _) | (with_reducible refine Kd.C_drew ?_))); (case side8 => exact HC0_4.out); (case side9 => repeat (first | exact (Kd.C_below HR1.out HB.out) | (with_reducible refine Kd.C_alloc ?_ _) | (with_reducible refine Kd.C_drewN ?_ _) | (with_reducible refine Kd.C_drew ?_))); (case side10 => exact HC1.out); (case side11 => exact Glob.below HG.out (by repeat (first | (with_reducible first | exact HB.out | apply below_alloc | apply pw_below_drewN | apply below_drew1 | refine below_set ?_ GE735.out) | exact HB.out))); rintro e w16 ⟨rfl, hb⟩; refine ⟨_, rfl, ?_⟩; have n0_ := Aside0.mk (blk_below (g := gb735) (o := .cells #[.string a0_0, .slice A0_1 l0_1.length c0_1, .slice A0_2 l0_2.length c0_2, .slice A0_3 l0_3.length c0_3, .slice A0_4 l0_4.length c0_4] 65 (0, 0)) (by (with_reducible repeat (first | refine blk_drewN ?_ _ | refine blk_drew ?_ | refine blk_alloc ?_ _)); exact BK735.out) hb); have n1_ := Aside0.mk (below_step (by repeat (first | (with_reducible first | exact HB.out | apply below_alloc | apply pw_below_drewN | apply below_drew1 | refine below_set ?_ GE735.out) | exact HB.out)) hb); clear BK735; clear HB; have BK735 := n0_; have HB := n1_; clear n0_ n1_; (try clear hb); (try clear hb2); (try clear hk); (try clear hi); have hcz17_0 : w16.cell? ⟨gb735, 0, none⟩ = some (.string a0_0) := (blk_cell BK735.out 0).trans rfl; have hcz17_1 : w16.cell? ⟨gb735, 1, none⟩ = some (.slice A0_1 l0_1.length c0_1) := (blk_cell BK735.out 1).trans rfl; have hcz17_2 : w16.cell? ⟨gb735, 2, none⟩ = some (.slice A0_2 l0_2.length c0_2) := (blk_cell BK735.out 2).trans rfl; have hcz17_3 : w16.cell? ⟨gb735, 3, none⟩ = some (.slice A0_3 l0_3.length c0_3) := (blk_cell BK735.out 3).trans rfl; have hcz17_4 : w16.cell? ⟨gb735, 4, none⟩ = some (.slice A0_4 l0_4.length c0_4) := (blk_cell BK735.out 4).trans rfl; have hfz17_0 := blk_frozen BK735.out 0; have hfz17_1 := blk_frozen BK735.out 1; have hfz17_2 := blk_frozen BK735.out 2; have hfz17_3 := blk_frozen BK735.out 3; have hfz17_4 := blk_frozen BK735.out 4) | ((with_reducible refine gate_callee (f := 53) rfl ?_); refine goesL_ (some 18) rfl rfl Tryd.func53 (by kernel_rfl) rfl #[.agg #[.string a0_0, .slice A0_1 l0_1.length c0_1, .slice A0_2 l0_2.length c0_2, .slice A0_3 l0_3.length c0_3, .slice A0_4 l0_4.length c0_4], .slice A1 l1.length c1] rfl (by (try simp only [List.map_toArray, List.map_cons, List.map_nil]); first | done | rfl | (simp only [List.length_drop, List.length_take]; rfl)) ?_; (with_reducible refine (vellumref04_Encode.calls k a0_0 _ _ l0_1 _ _ l0_2 _ _ l0_3 _ _ l0_4 _ _ l1 t738 t739 _ ?side1 ?side2 ?side3 ?side4 ?side5 ?side6 ?side7 ?side8 ?side9 ?side10 ?side11 A4.out).mono ?_); (case side1 => repeat (first | exact (Kd.C_below HR0_1.out HB.out) | (with_reducible refine Kd.C_alloc ?_ _) | (with_reducible refine Kd.C_drewN ?_ _) | (with_reducible refine Kd.C_drew ?_))); (case side2 => exact HC0_1.out); (case side3 => repeat (first | exact (Kd.C_below HR0_2.out HB.out) | (with_reducible refine Kd.C_alloc ?_ _) | (with_reducible refine Kd.C_drewN ?_ _) | (with_reducible refine Kd.C_drew ?_))); (case side4 => exact HC0_2.out); (case side5 => repeat (first | exact (Kd.C_below HR0_3.out HB.out) | (with_reducible refine Kd.C_alloc ?_ _) | (with_reducible refine Kd.C_drewN ?_ _) | (with_reducible refine Kd.C_drew ?_))); (case side6 => exact HC0_3.out); (case side7 => repeat (first | exact (Kd.C_below HR0_4.out HB.out) | (with_reducible refine Kd.C_alloc ?_ _) | (with_reducible refine Kd.C_drewN ?_ _) | (with_reducible refine Kd.C_drew ?_))); (case side8 => exact HC0_4.out); (case side9 => repeat (first | exact (Kd.C_below HR1.out HB.out) | (with_reducible refine Kd.C_alloc ?_ _) | (with_reducible refine Kd.C_drewN ?_ _) | (with_reducible refine Kd.C_drew ?_))); (case side10 => exact HC1.out); (case side11 => exact Glob.below HG.out (by repeat (first | (with_reducible first | exact HB.out | apply below_alloc | apply pw_below_drewN | apply below_drew1 | refine below_set ?_ GE735.out) | exact HB.out))); rintro e w18 ⟨rfl, hb⟩; refine ⟨_, rfl, ?_⟩; have n0_ := Aside0.mk (blk_below (g := gb735) (o := .cells #[.string a0_0, .slice A0_1 l0_1.length c0_1, .slice A0_2 l0_2.length c0_2, .slice A0_3 l0_3.length c0_3, .slice A0_4 l0_4.length c0_4] 65 (0, 0)) (by (with_reducible repeat (first | refine blk_drewN ?_ _ | refine blk_drew ?_ | refine blk_alloc ?_ _)); exact BK735.out) hb); have n1_ := Aside0.mk (below_step (by repeat (first | (with_reducible first | exact HB.out | apply below_alloc | apply pw_below_drewN | apply below_drew1 | refine below_set ?_ GE735.out) | exact HB.out)) hb); clear BK735; clear HB; have BK735 := n0_; have HB := n1_; clear n0_ n1_; (try clear hb); (try clear hb2); (try clear hk); (try clear hi)))
   go_ret
   exact ⟨by first | rfl | (simp [errW_none, errW_some] <;> rfl) | (simp [*, errW_none, errW_some] <;> rfl), by repeat (first | (with_reducible first | exact HB.out | apply below_alloc | apply pw_below_drewN | apply below_drew1 | refine below_set ?_ GE735.out) | exact HB.out)⟩
 ·rw [if_neg c5] at H
  have c5b0 : (t736.toList == t738.toList) = false := beq_eq_false_iff_ne.mpr c5
  have c5b1 : (t736.toList != t738.toList) = true := bne_iff_ne.mpr c5
  obtain rfl := Option.some.inj H
  go_enter Tryd.func13, Tryd.ntmps13
  go_wp2_with (first | ((with_reducible refine gate_dst (N := 2) rfl ?_); refine box_event ?hg (N := 2) ?hd (cs := #[.string a0_0, .slice A0_1 l0_1.length c0_1, .slice A0_2 l0_2.length c0_2, .slice A0_3 l0_3.length c0_3, .slice A0_4 l0_4.length c0_4]) (t := 65) ?hr ?_; (case hd => rfl); (case hg => rfl); (case hr => first | (go_simp; done) | (go_simp; rfl)); intro gb735 hg w19 hbox hb; have n0_ := Aside0.mk (below_step (by repeat (first | (with_reducible first | exact HB.out | apply below_alloc | apply pw_below_drewN | apply below_drew1) | exact HB.out)) hb); have n1_ := Aside0.mk (hbox); have n2_ := Aside0.mk ((by rw [hg]; exact (below_size (by repeat (first | (with_reducible first | exact HB.out | apply below_alloc | apply pw_below_drewN | apply below_drew1) | exact HB.out))) : w.heap.size ≤ gb735)); have n3_ := n2_; clear HB; have HB := n0_; have BK735 := n1_; have GW735 := n2_; have GE735 := n3_; clear n0_ n1_ n2_ n3_; clear hb hbox hg; have hcz20_0 : w19.cell? ⟨gb735, 0, none⟩ = some (.string a0_0) := (blk_cell BK735.out 0).trans rfl; have hcz20_1 : w19.cell? ⟨gb735, 1, none⟩ = some (.slice A0_1 l0_1.length c0_1) := (blk_cell BK735.out 1).trans rfl; have hcz20_2 : w19.cell? ⟨gb735, 2, none⟩ = some (.slice A0_2 l0_2.length c0_2) := (blk_cell BK735.out 2).trans rfl; have hcz20_3 : w19.cell? ⟨gb735, 3, none⟩ = some (.slice A0_3 l0_3.length c0_3) := (blk_cell BK735.out 3).trans rfl; have hcz20_4 : w19.cell? ⟨gb735, 4, none⟩ = some (.slice A0_4 l0_4.length c0_4) := (blk_cell BK735.out 4).trans rfl; have hfz20_0 := blk_frozen BK735.out 0; have hfz20_1 := blk_frozen BK735.out 1; have hfz20_2 := blk_frozen BK735.out 2; have hfz20_3 := blk_frozen BK735.out 3; have hfz20_4 := blk_frozen BK735.out 4) | ((with_reducible refine gate_callee (f := 52) rfl ?_); refine goesL_ (some 12) rfl rfl Tryd.func52 (by kernel_rfl) rfl #[.agg #[.string a0_0, .slice A0_1 l0_1.length c0_1, .slice A0_2 l0_2.length c0_2, .slice A0_3 l0_3.length c0_3, .slice A0_4 l0_4.length c0_4], .slice A1 l1.length c1] rfl (by (try simp only [List.map_toArray, List.map_cons, List.map_nil]); first | done | rfl | (simp only [List.length_drop, List.length_take]; rfl)) ?_; (with_reducible refine (row_Encode.calls k a0_0 _ _ l0_1 _ _ l0_2 _ _ l0_3 _ _ l0_4 _ _ l1 t736 t737 _ ?side1 ?side2 ?side3 ?side4 ?side5 ?side6 ?side7 ?side8 ?side9 ?side10 ?side11 A3.out).mono ?_); (case side1 => repeat (first | exact (Kd.C_below HR0_1.out HB.out) | (with_reducible refine Kd.C_alloc ?_ _) | (with_reducible refine Kd.C_drewN ?_ _) | (with_reducible refine Kd.C_drew ?_))); (case side2 => exact HC0_1.out); (case side3 => repeat (first | exact (Kd.C_below HR0_2.out HB.out) | (with_reducible refine Kd.C_alloc ?_ _) | (with_reducible refine Kd.C_drewN ?_ _) | (with_reducible refine Kd.C_drew ?_))); (case side4 => exact HC0_2.out); (case side5 => repeat (first | exact (Kd.C_below HR0_3.out HB.out) | (with_reducible refine Kd.C_alloc ?_ _) | (with_reducible refine Kd.C_drewN ?_ _) | (with_reducible refine Kd.C_drew ?_))); (case side6 => exact HC0_3.out); (case side7 => repeat (first | exact (Kd.C_below HR0_4.out HB.out) | (with_reducible refine Kd.C_alloc ?_ _) | (with_reducible refine Kd.C_drewN ?_ _) | (with_reducible refine Kd.C_drew ?_))); (case side8 => exact HC0_4.out); (case side9 => repeat (first | exact (Kd.C_below HR1.out HB.out) | (with_reducible refine Kd.C_alloc ?_ _) | (with_reducible refine Kd.C_drewN ?_ _) | (with_reducible refine Kd.C_drew ?_))); (case side10 => exact HC1.out); (case side11 => exact Glob.below HG.out (by repeat (first | (with_reducible first | exact HB.out | apply below_alloc | apply pw_below_drewN | apply below_drew1 | refine below_set ?_ GE735.out) | exact HB.out))); rintro e w21 ⟨rfl, hb⟩; refine ⟨_, rfl, ?_⟩; have n0_ := Aside0.mk (blk_below (g := gb735) (o := .cells #[.string a0_0, .slice A0_1 l0_1.length c0_1, .slice A0_2 l0_2.length c0_2, .slice A0_3 l0_3.length c0_3, .slice A0_4 l0_4.length c0_4] 65 (0, 0)) (by (with_reducible repeat (first | refine blk_drewN ?_ _ | refine blk_drew ?_ | refine blk_alloc ?_ _)); exact BK735.out) hb); have n1_ := Aside0.mk (below_step (by repeat (first | (with_reducible first | exact HB.out | apply below_alloc | apply pw_below_drewN | apply below_drew1 | refine below_set ?_ GE735.out) | exact HB.out)) hb); clear BK735; clear HB; have BK735 := n0_; have HB := n1_; clear n0_ n1_; (try clear hb); (try clear hb2); (try clear hk); (try clear hi); have hcz22_0 : w21.cell? ⟨gb735, 0, none⟩ = some (.string a0_0) := (blk_cell BK735.out 0).trans rfl; have hcz22_1 : w21.cell? ⟨gb735, 1, none⟩ = some (.slice A0_1 l0_1.length c0_1) := (blk_cell BK735.out 1).trans rfl; have hcz22_2 : w21.cell? ⟨gb735, 2, none⟩ = some (.slice A0_2 l0_2.length c0_2) := (blk_cell BK735.out 2).trans rfl; have hcz22_3 : w21.cell? ⟨gb735, 3, none⟩ = some (.slice A0_3 l0_3.length c0_3) := (blk_cell BK735.out 3).trans rfl; have hcz22_4 : w21.cell? ⟨gb735, 4, none⟩ = some (.slice A0_4 l0_4.length c0_4) := (blk_cell BK735.out 4).trans rfl; have hfz22_0 := blk_frozen BK735.out 0; have hfz22_1 := blk_frozen BK735.out 1; have hfz22_2 := blk_frozen BK735.out 2; have hfz22_3 := blk_frozen BK735.out 3; have hfz22_4 := blk_frozen BK735.out 4) | ((with_reducible refine gate_callee (f := 53) rfl ?_); refine goesL_ (some 18) rfl rfl Tryd.func53 (by kernel_rfl) rfl #[.agg #[.string a0_0, .slice A0_1 l0_1.length c0_1, .slice A0_2 l0_2.length c0_2, .slice A0_3 l0_3.length c0_3, .slice A0_4 l0_4.length c0_4], .slice A1 l1.length c1] rfl (by (try simp only [List.map_toArray, List.map_cons, List.map_nil]); first | done | rfl | (simp only [List.length_drop, List.length_take]; rfl)) ?_; (with_reducible refine (vellumref04_Encode.calls k a0_0 _ _ l0_1 _ _ l0_2 _ _ l0_3 _ _ l0_4 _ _ l1 t738 t739 _ ?side1 ?side2 ?side3 ?side4 ?side5 ?side6 ?side7 ?side8 ?side9 ?side10 ?side11 A4.out).mono ?_); (case side1 => repeat (first | exact (Kd.C_below HR0_1.out HB.out) | (with_reducible refine Kd.C_alloc ?_ _) | (with_reducible refine Kd.C_drewN ?_ _) | (with_reducible refine Kd.C_drew ?_))); (case side2 => exact HC0_1.out); (case side3 => repeat (first | exact (Kd.C_below HR0_2.out HB.out) | (with_reducible refine Kd.C_alloc ?_ _) | (with_reducible refine Kd.C_drewN ?_ _) | (with_reducible refine Kd.C_drew ?_))); (case side4 => exact HC0_2.out); (case side5 => repeat (first | exact (Kd.C_below HR0_3.out HB.out) | (with_reducible refine Kd.C_alloc ?_ _) | (with_reducible refine Kd.C_drewN ?_ _) | (with_reducible refine Kd.C_drew ?_))); (case side6 => exact HC0_3.out); (case side7 => repeat (first | exact (Kd.C_below HR0_4.out HB.out) | (with_reducible refine Kd.C_alloc ?_ _) | (with_reducible refine Kd.C_drewN ?_ _) | (with_reducible refine Kd.C_drew ?_))); (case side8 => exact HC0_4.out); (case side9 => repeat (first | exact (Kd.C_below HR1.out HB.out) | (with_reducible refine Kd.C_alloc ?_ _) | (with_reducible refine Kd.C_drewN ?_ _) | (with_reducible refine Kd.C_drew ?_))); (case side10 => exact HC1.out); (case side11 => exact Glob.below HG.out (by repeat (first | (with_reducible first | exact HB.out | apply below_alloc | apply pw_below_drewN | apply below_drew1 | refine below_set ?_ GE735.out) | exact HB.out))); rintro e w23 ⟨rfl, hb⟩; refine ⟨_, rfl, ?_⟩; have n0_ := Aside0.mk (blk_below (g := gb735) (o := .cells #[.string a0_0, .slice A0_1 l0_1.length c0_1, .slice A0_2 l0_2.length c0_2, .slice A0_3 l0_3.length c0_3, .slice A0_4 l0_4.length c0_4] 65 (0, 0)) (by (with_reducible repeat (first | refine blk_drewN ?_ _ | refine blk_drew ?_ | refine blk_alloc ?_ _)); exact BK735.out) hb); have n1_ := Aside0.mk (below_step (by repeat (first | (with_reducible first | exact HB.out | apply below_alloc | apply pw_below_drewN | apply below_drew1 | refine below_set ?_ GE735.out) | exact HB.out)) hb); clear BK735; clear HB; have BK735 := n0_; have HB := n1_; clear n0_ n1_; (try clear hb); (try clear hb2); (try clear hk); (try clear hi)))
  go_ret
  exact ⟨by first | rfl | (simp [errW_none, errW_some] <;> rfl) | (simp [*, errW_none, errW_some] <;> rfl), by repeat (first | (with_reducible first | exact HB.out | apply below_alloc | apply pw_below_drewN | apply below_drew1 | refine below_set ?_ GE735.out) | exact HB.out)⟩
end Go.Proofs.YtpiifdbicibelaaDoor.PA
end
section
namespace Go.Proofs.YtpiifdbicibelaaDoor.Pure
open Go.RowKit Go.Proofs Go.Proofs.YtpiifdbicibelaaDoorW.PrintWords Go.Proofs.YtpiifdbicibelaaDoorW.PrintLast Go.Proofs.YtpiifdbicibelaaDoorW.PrintMore Go.Proofs.YtpiifdbicibelaaDoor.PA Go.Proofs.YtpiifdbicibelaaDoor.OpenK
set_option linter.unusedVariables false
set_option linter.unusedSimpArgs false
theorem or128 (a : Int) (h : 0 ≤ a ∧ a ≤ 255) : Go.bits .or .u8 a 128 = a % 128 + 128 := by
  have hall : ∀ x : Fin 256, Go.bits .or .u8 (x.val : Int) 128 = (x.val : Int) % 128 + 128 := by decide +kernel
  have := hall ⟨a.toNat, by omega⟩
  have e : ((a.toNat : Nat) : Int) = a := by omega
  simpa [e] using this
theorem or128_64 (x : Int) (h0 : 0 ≤ x) (h1 : x < 18446744073709551616) : (Go.bits .or .u64 (Go.bits .and .u64 x 127) 128) % 256 = x % 128 + 128 := by
  have e1 : Go.bits .and .u64 x 127 = IntKind.u64.wrap (((BitVec.ofInt 64 x) &&& (BitVec.ofInt 64 127)).toNat : Int) := rfl
  have e2 : (BitVec.ofInt 64 127).toNat = 2 ^ 7 - 1 := by decide
  have e3 : Go.bits .and .u64 x 127 = x % 128 := by
    rw [e1, BitVec.toNat_and, e2, Nat.and_two_pow_sub_one_eq_mod, BitVec.toNat_ofInt, u64_wrap]
    omega
  rw [e3]
  have hall : ∀ y : Fin 128, (Go.bits .or .u64 (y.val : Int) 128) % 256 = (y.val : Int) + 128 := by decide +kernel
  have := hall ⟨(x % 128).toNat, by omega⟩
  have e : (((x % 128).toNat : Nat) : Int) = x % 128 := by omega
  simpa [e] using this
def vb (n : Nat) : List Int := if h : 128 ≤ n then ((n % 128 + 128 : Nat) : Int) :: vb (n / 128) else [(n : Int)]
decreasing_by omega
theorem vb_length : ∀ (m n : Nat), n < 128 ^ (m + 1) → (vb n).length ≤ m + 1
  | 0, n, h => by
    unfold vb
    rw [dif_neg (by omega)]; simp
  | m + 1, n, h => by
    unfold vb
    split
    · have := vb_length m (n / 128) (by rw [Nat.pow_succ] at h; omega)
      simp; omega
    · simp
theorem varint_code : ∀ (m n : Nat) (acc : List Int), n < 128 ^ (m + 1) → n < 18446744073709551616 → acc.length + m + 1 < 140737488355328 → Ev (fun k => row_putVarint.l0 k acc (n : Int)) (acc ++ vb n)
  | 0, n, acc, h, _, hl => by
    refine Ev.from_ 1 fun k => ?_
    simp only [row_putVarint.l0]
    rw [if_neg (by omega), if_pos (by omega)]
    unfold vb
    rw [dif_neg (by omega)]
    have : (n : Int) % 256 = (n : Int) := by omega
    rw [this]
  | m + 1, n, acc, h, h64, hl => by
    by_cases hb : 128 ≤ n
    · have e1 : ((n : Int) % 256) % 128 + 128 = ((n % 128 + 128 : Nat) : Int) := by omega
      have e2 : (n : Int) / 128 = ((n / 128 : Nat) : Int) := by omega
      have ih := varint_code m (n / 128) (acc ++ [((n % 128 + 128 : Nat) : Int)]) (by rw [Nat.pow_succ] at h; omega) (by omega) (by simp; omega)
      refine Ev.step (g := fun k => row_putVarint.l0 k (acc ++ [((n % 128 + 128 : Nat) : Int)]) ((n / 128 : Nat) : Int)) (fun k => ?_) ?_
      · simp only [row_putVarint.l0]
        rw [if_pos (by omega), if_pos (by omega), or128 _ (by omega), e1, e2]
      · have e3 : vb n = ((n % 128 + 128 : Nat) : Int) :: vb (n / 128) := by
          rw [vb.eq_1 n, dif_pos hb]
        rw [e3]
        simpa using ih
    · refine Ev.from_ 1 fun k => ?_
      simp only [row_putVarint.l0]
      rw [if_neg (by omega), if_pos (by omega)]
      have e3 : vb n = [(n : Int)] := by rw [vb.eq_1 n, dif_neg hb]
      have : (n : Int) % 256 = (n : Int) := by omega
      rw [this, e3]
theorem varint_ref : ∀ (m n : Nat) (acc : List Int), n < 128 ^ (m + 1) → n < 18446744073709551616 → acc.length + m + 1 < 140737488355328 → Ev (fun k => vellumref04_varint.l0 k (n : Int) acc) (acc ++ vb n)
  | 0, n, acc, h, _, hl => by
    refine Ev.from_ 1 fun k => ?_
    simp only [vellumref04_varint.l0]
    rw [if_neg (by omega), if_pos (by omega)]
    unfold vb
    rw [dif_neg (by omega)]
    have : (n : Int) % 256 = (n : Int) := by omega
    rw [this]
  | m + 1, n, acc, h, h64, hl => by
    by_cases hb : 128 ≤ n
    · have e1 : (n : Int) % 128 + 128 = ((n % 128 + 128 : Nat) : Int) := by omega
      have e2 : (n : Int) / 128 = ((n / 128 : Nat) : Int) := by omega
      have ih := varint_ref m (n / 128) (acc ++ [((n % 128 + 128 : Nat) : Int)]) (by rw [Nat.pow_succ] at h; omega) (by omega) (by simp; omega)
      refine Ev.step (g := fun k => vellumref04_varint.l0 k ((n / 128 : Nat) : Int) (acc ++ [((n % 128 + 128 : Nat) : Int)])) (fun k => ?_) ?_
      · simp only [vellumref04_varint.l0]
        rw [if_pos (by omega), if_pos (by omega), or128_64 _ (by omega) (by omega), e1, e2]
      · have e3 : vb n = ((n % 128 + 128 : Nat) : Int) :: vb (n / 128) := by
          rw [vb.eq_1 n, dif_pos hb]
        rw [e3]
        simpa using ih
    · refine Ev.from_ 1 fun k => ?_
      simp only [vellumref04_varint.l0]
      rw [if_neg (by omega), if_pos (by omega)]
      have e3 : vb n = [(n : Int)] := by rw [vb.eq_1 n, dif_neg hb]
      have : (n : Int) % 256 = (n : Int) := by omega
      rw [this, e3]
def zz (n : Int) : Nat := if 0 ≤ n then (2 * n).toNat else (-2 * n - 1).toNat
theorem zz_lt {n : Int} (h : (Lit.int .i64 n).wf = true) : zz n < 18446744073709551616 := by
  obtain ⟨h0, h1⟩ := isInt_range h
  unfold zz
  split <;> omega
theorem xor_u64 (x y : Nat) (hx : x < 2 ^ 64) (hy : y < 2 ^ 64) : Go.bits .xor .u64 (x : Int) (y : Int) = ((x ^^^ y : Nat) : Int) := by
  have e1 : Go.bits .xor .u64 (x : Int) (y : Int) = IntKind.u64.wrap (((BitVec.ofInt 64 (x : Int)) ^^^ (BitVec.ofInt 64 (y : Int))).toNat : Int) := rfl
  have hlt := Nat.xor_lt_two_pow hx hy
  rw [e1, BitVec.toNat_xor, BitVec.toNat_ofInt, BitVec.toNat_ofInt, u64_wrap]
  have h1 : ((x : Int) % ((2 ^ 64 : Nat) : Int)).toNat = x := by omega
  have h2 : ((y : Int) % ((2 ^ 64 : Nat) : Int)).toNat = y := by omega
  rw [h1, h2]
  omega
theorem zigzag_code {n : Int} (h : (Lit.int .i64 n).wf = true) : row_zigzag.f n = some (zz n : Int) := by
  obtain ⟨h0, h1⟩ := isInt_range h
  unfold row_zigzag.f zz
  congr 1
  by_cases hp : 0 ≤ n
  · have e1 : n / 9223372036854775808 = 0 := by omega
    rw [if_pos hp, e1, u64_wrap, u64_wrap, u64_wrap]
    have e2 : (n % 18446744073709551616 * 2) % 18446744073709551616 = (((2 * n).toNat : Nat) : Int) := by omega
    have e3 : (0 : Int) % 18446744073709551616 = ((0 : Nat) : Int) := rfl
    rw [e2, e3, xor_u64 _ _ (by omega) (by decide), Nat.xor_zero]
  · have e1 : n / 9223372036854775808 = -1 := by omega
    rw [if_neg hp, e1, u64_wrap, u64_wrap, u64_wrap]
    have e2 : (n % 18446744073709551616 * 2) % 18446744073709551616 = (((2 * n + 18446744073709551616).toNat : Nat) : Int) := by omega
    have e3 : (-1 : Int) % 18446744073709551616 = ((2 ^ 64 - 1 : Nat) : Int) := by decide
    rw [e2, e3, xor_u64 _ _ (by omega) (by decide), xor_ones _ _ (by omega)]
    omega
theorem zigzag_ref {n : Int} (h : (Lit.int .i64 n).wf = true) : vellumref04_zigzag.f n = some (zz n : Int) := by
  obtain ⟨h0, h1⟩ := isInt_range h
  unfold vellumref04_zigzag.f zz
  by_cases hp : 0 ≤ n
  · rw [if_pos (by omega), if_pos hp, u64_wrap, u64_wrap]
    congr 1; omega
  · rw [if_neg (by omega), if_neg hp, wrap64_id (n := n + 1) (by omega) (by omega), wrap64_id (n := -(n + 1)) (by omega) (by omega), u64_wrap, u64_wrap, u64_wrap]
    congr 1; omega
def lowB (n : Int) (i m : Nat) : List Int := (List.range' i m).map fun (j : Nat) => (shr .u64 n (8 * (j : Int))) % 256
theorem low_code (n : Int) : ∀ (m i : Nat) (acc : List Int), i + m = 8 → acc.length + m < 140737488355328 → Ev (fun k => row_putLow.l0 k acc n (i : Int)) (acc ++ lowB n i m)
  | 0, i, acc, h, hl => by
    refine Ev.from_ 1 fun k => ?_
    simp only [row_putLow.l0]
    rw [if_neg (by omega)]; simp [lowB]
  | m + 1, i, acc, h, hl => by
    have ih := low_code n m (i + 1) (acc ++ [(shr .u64 n (8 * (i : Int))) % 256]) (by omega) (by simp; omega)
    refine Ev.step (g := fun k => row_putLow.l0 k (acc ++ [(shr .u64 n (8 * (i : Int))) % 256]) n ((i + 1 : Nat) : Int)) (fun k => ?_) ?_
    · simp only [row_putLow.l0]
      rw [wrap64_id (n := 8 * (i : Int)) (by omega) (by omega), wrap64_id (n := (i : Int) + 1) (by omega) (by omega), if_pos (by omega), if_pos (by omega), if_pos (by omega)]
      rfl
    · have : lowB n i (m + 1) = (shr .u64 n (8 * (i : Int))) % 256 :: lowB n (i + 1) m := rfl
      rw [this]
      simpa using ih
theorem low_ref (n : Int) : ∀ (m i : Nat) (acc : List Int), i + m = 8 → acc.length + m < 140737488355328 → Ev (fun k => vellumref04_told.l0 k acc n (i : Int)) (acc ++ lowB n i m)
  | 0, i, acc, h, hl => by
    refine Ev.from_ 1 fun k => ?_
    simp only [vellumref04_told.l0]
    rw [if_neg (by omega)]; simp [lowB]
  | m + 1, i, acc, h, hl => by
    have ih := low_ref n m (i + 1) (acc ++ [(shr .u64 n (8 * (i : Int))) % 256]) (by omega) (by simp; omega)
    refine Ev.step (g := fun k => vellumref04_told.l0 k (acc ++ [(shr .u64 n (8 * (i : Int))) % 256]) n ((i + 1 : Nat) : Int)) (fun k => ?_) ?_
    · simp only [vellumref04_told.l0]
      rw [wrap64_id (n := 8 * (i : Int)) (by omega) (by omega), wrap64_id (n := (i : Int) + 1) (by omega) (by omega), u64_wrap_id (n := 8 * (i : Int)) (by omega) (by omega), if_pos (by omega), if_pos (by omega), if_pos (by omega)]
      rfl
    · have : lowB n i (m + 1) = (shr .u64 n (8 * (i : Int))) % 256 :: lowB n (i + 1) m := rfl
      rw [this]
      simpa using ih
def toldB (v : S50) : List Int := if v.f0 = 2 then vb (zz v.f1) else if v.f0 = 3 then lowB (v.f2 : Int) 0 8 else if v.f0 = 4 ∨ v.f0 = 5 then vb v.f3.size ++ bytesOf v.f3 else []
theorem p128 : (18446744073709551616 : Nat) ≤ 128 ^ (9 + 1) := by decide
theorem bytesOf_length (s : ByteArray) : (bytesOf s).length = s.size := by simp [bytesOf]
theorem toldB_length {v : S50} (hw : wf50 v) (hs : v.f3.size ≤ 65536) : (toldB v).length ≤ 65546 := by
  unfold toldB
  split
  · have := vb_length 9 (zz v.f1) (Nat.lt_of_lt_of_le (zz_lt hw.2.1) p128); omega
  · split
    · simp [lowB]
    · split
      · have := vb_length 9 v.f3.size (Nat.lt_of_lt_of_le (by omega) p128)
        rw [List.length_append, bytesOf_length]; omega
      · simp
theorem row_put_ev (acc : List Int) {v : S50} (hw : wf50 v) (hs : v.f3.size ≤ 65536) (hl : acc.length + 100000 < 140737488355328) : Ev (fun k => row_put.f k acc v.f0 v.f1 v.f2 v.f3) (acc ++ toldB v) := by
  simp only [row_put.f, toldB, row_putVarint.f, row_putLow.f]
  by_cases h2 : v.f0 = 2
  · rw [if_pos h2]
    exact Ev.pos h2 (Ev.bind (Ev.const (zigzag_code hw.2.1)) (Ev.bind (varint_code 9 _ acc (Nat.lt_of_lt_of_le (zz_lt hw.2.1) p128) (zz_lt hw.2.1) (by omega)) Ev.pure))
  rw [if_neg h2]
  refine Ev.neg h2 ?_
  by_cases h3 : v.f0 = 3
  · rw [if_pos h3]
    exact Ev.pos h3 (Ev.bind (low_code (v.f2 : Int) 8 0 acc rfl (by omega)) Ev.pure)
  rw [if_neg h3]
  refine Ev.neg h3 ?_
  have hvl := vb_length 9 v.f3.size (Nat.lt_of_lt_of_le (by omega) p128)
  have hv := varint_code 9 v.f3.size acc (Nat.lt_of_lt_of_le (by omega) p128) (by omega) (by omega)
  have hwr : IntKind.u64.wrap (v.f3.size : Int) = (v.f3.size : Int) := u64_wrap_id (by omega) (by omega)
  rw [hwr]
  by_cases h4 : v.f0 = 4
  · rw [if_pos (.inl h4)]
    refine Ev.pos h4 (Ev.bind hv (Ev.pos (by rw [List.length_append]; omega) ?_))
    rw [List.append_assoc]; exact Ev.pure
  refine Ev.neg h4 ?_
  by_cases h5 : v.f0 = 5
  · rw [if_pos (.inr h5)]
    refine Ev.pos h5 (Ev.bind hv (Ev.pos (by rw [List.length_append]; omega) ?_))
    rw [List.append_assoc]; exact Ev.pure
  · rw [if_neg (by omega), List.append_nil]
    exact Ev.neg h5 Ev.pure
theorem told_ev {v : S50} (hw : wf50 v) (hs : v.f3.size ≤ 65536) : Ev (fun k => vellumref04_told.f k v.f0 v.f1 v.f2 v.f3) (toldB v) := by
  simp only [vellumref04_told.f, toldB, vellumref04_varint.f]
  by_cases h2 : v.f0 = 2
  · rw [if_pos h2]
    exact Ev.pos h2 (Ev.bind (Ev.const (zigzag_ref hw.2.1)) (Ev.bind (varint_ref 9 _ [] (Nat.lt_of_lt_of_le (zz_lt hw.2.1) p128) (zz_lt hw.2.1) (by simp)) Ev.pure))
  rw [if_neg h2]
  refine Ev.neg h2 ?_
  by_cases h3 : v.f0 = 3
  · rw [if_pos h3]
    exact Ev.pos h3 (low_ref (v.f2 : Int) 8 0 [] rfl (by simp))
  rw [if_neg h3]
  refine Ev.neg h3 ?_
  have hvl := vb_length 9 v.f3.size (Nat.lt_of_lt_of_le (by omega) p128)
  have hv := varint_ref 9 v.f3.size [] (Nat.lt_of_lt_of_le (by omega) p128) (by omega) (by simp)
  have hwr : IntKind.u64.wrap (v.f3.size : Int) = (v.f3.size : Int) := u64_wrap_id (by omega) (by omega)
  rw [hwr]
  by_cases h4 : v.f0 = 4
  · rw [if_pos (.inl h4)]
    exact Ev.pos h4 (Ev.bind hv (Ev.pos (by rw [List.nil_append]; omega) Ev.pure))
  refine Ev.neg h4 ?_
  by_cases h5 : v.f0 = 5
  · rw [if_pos (.inr h5)]
    exact Ev.pos h5 (Ev.bind hv (Ev.pos (by rw [List.nil_append]; omega) Ev.pure))
  · rw [if_neg (by omega)]
    exact Ev.neg h5 Ev.pure
end Go.Proofs.YtpiifdbicibelaaDoor.Pure
end
section
namespace Go.Proofs.YtpiifdbicibelaaDoor.Pure
open Go.RowKit Go.Proofs Go.Proofs.YtpiifdbicibelaaDoorW.PrintWords Go.Proofs.YtpiifdbicibelaaDoorW.PrintLast Go.Proofs.YtpiifdbicibelaaDoorW.PrintMore Go.Proofs.YtpiifdbicibelaaDoor.PA Go.Proofs.YtpiifdbicibelaaDoor.OpenK
set_option linter.unusedVariables false
set_option linter.unusedSimpArgs false
def mark (v : S50) : Int := if v.f0 = 0 then 0 else if v.f0 = 1 then (if v.f1 = 1 then 2 else 1) else 1
theorem mark_code (v : S50) : row_mark.f v.f0 v.f1 v.f2 v.f3 = some (mark v) := by
  unfold row_mark.f mark
  repeat' split
  all_goals rfl
theorem mark_ref (v : S50) : vellumref04_pair.f v.f0 v.f1 v.f2 v.f3 = some (mark v) := by
  unfold vellumref04_pair.f mark
  repeat' split
  all_goals rfl
def setM : List S50 → Nat → List Int → List Int
  | [], _, acc => acc
  | v :: vs, i, acc => setM vs (i + 1) (acc.set (i / 4) (Go.bits .or .u8 (rd acc ((i / 4 : Nat) : Int)) (shl .u8 (mark v) ((2 * (i % 4) : Nat) : Int))))
def rowB (xs : List S50) : List Int := setM xs 0 (List.replicate ((xs.length + 3) / 4) 0) ++ xs.flatMap toldB
theorem tdiv4 (i : Nat) : Int.tdiv (i : Int) 4 = ((i / 4 : Nat) : Int) := rfl
theorem tmod4 (i : Nat) : Int.tmod (i : Int) 4 = ((i % 4 : Nat) : Int) := rfl
theorem tails_code (xs : List S50) (hn : xs.length ≤ 1000) (hw : ∀ v ∈ xs, wf50 v ∧ v.f3.size ≤ 65536) : ∀ (m i : Nat) (acc : List Int), i + m = xs.length → acc.length ≤ 1000 + i * 65546 →
    Ev (fun k => row_encode.l1 k acc xs (xs.length : Int) (i : Int)) (acc ++ (xs.drop i).flatMap toldB)
  | 0, i, acc, h, _ => by
    refine Ev.from_ 1 fun k => ?_
    simp only [row_encode.l1]
    rw [if_neg (by omega), List.drop_of_length_le (by omega)]; simp
  | m + 1, i, acc, h, hl => by
    have hlt : i < xs.length := by omega
    have hx : xs[i]? = some xs[i] := List.getElem?_eq_getElem hlt
    obtain ⟨w1, w2⟩ := hw xs[i] (List.getElem_mem hlt)
    have hL := toldB_length w1 w2
    have ih := tails_code xs hn hw m (i + 1) (acc ++ toldB xs[i]) (by omega) (by rw [List.length_append]; omega)
    refine Ev.step (g := fun k => (row_put.f k acc xs[i].f0 xs[i].f1 xs[i].f2 xs[i].f3).bind fun t609 => (row_encode.l1 k t609 xs (xs.length : Int) ((i + 1 : Nat) : Int))) (fun k => ?_) (Ev.bind (row_put_ev acc w1 w2 (by omega)) ?_)
    · simp only [row_encode.l1]
      rw [if_pos (by omega), if_pos (by omega), if_pos (by omega), rd_get xs i _ hx, wrap64_id (by omega) (by omega)]
      rfl
    · rw [List.drop_eq_getElem_cons hlt, List.flatMap_cons, ← List.append_assoc]
      exact ih
theorem tails_ref (xs : List S50) (hn : xs.length ≤ 1000) (hw : ∀ v ∈ xs, wf50 v ∧ v.f3.size ≤ 65536) : ∀ (m i : Nat) (acc : List Int), i + m = xs.length → acc.length ≤ 1000 + i * 65546 →
    Ev (fun k => vellumref04_bytesOf.l1 k xs acc (i : Int)) (acc ++ (xs.drop i).flatMap toldB)
  | 0, i, acc, h, _ => by
    refine Ev.from_ 1 fun k => ?_
    simp only [vellumref04_bytesOf.l1]
    rw [if_neg (by omega), List.drop_of_length_le (by omega)]; simp
  | m + 1, i, acc, h, hl => by
    have hlt : i < xs.length := by omega
    have hx : xs[i]? = some xs[i] := List.getElem?_eq_getElem hlt
    obtain ⟨w1, w2⟩ := hw xs[i] (List.getElem_mem hlt)
    have hL := toldB_length w1 w2
    have ih := tails_ref xs hn hw m (i + 1) (acc ++ toldB xs[i]) (by omega) (by rw [List.length_append]; omega)
    refine Ev.step (g := fun k => (vellumref04_told.f k xs[i].f0 xs[i].f1 xs[i].f2 xs[i].f3).bind fun t699 => (if acc.length + t699.length < 140737488355328 then (vellumref04_bytesOf.l1 k xs (acc ++ t699) ((i + 1 : Nat) : Int)) else (none))) (fun k => ?_) (Ev.bind (told_ev w1 w2) (Ev.pos (by omega) ?_))
    · simp only [vellumref04_bytesOf.l1]
      rw [if_pos (by omega), if_pos (by omega), rd_get xs i _ hx, wrap64_id (by omega) (by omega)]
      rfl
    · rw [List.drop_eq_getElem_cons hlt, List.flatMap_cons, ← List.append_assoc]
      exact ih
theorem marks_code (xs : List S50) (hn : xs.length ≤ 1000) (b : List Int → List Int) (hb : ∀ acc : List Int, acc.length = (xs.length + 3) / 4 → Ev (fun k => row_encode.l1 k acc xs (xs.length : Int) 0) (b acc)) : ∀ (m i : Nat) (acc : List Int), i + m = xs.length → acc.length = (xs.length + 3) / 4 →
    Ev (fun k => row_encode.l0 k xs acc xs (xs.length : Int) (i : Int)) (b (setM (xs.drop i) i acc))
  | 0, i, acc, h, hl => by
    rw [List.drop_of_length_le (by omega)]
    refine Ev.step (g := fun k => row_encode.l1 k acc xs (xs.length : Int) 0) (fun k => ?_) (hb acc hl)
    simp only [row_encode.l0]
    rw [if_neg (by omega)]
  | m + 1, i, acc, h, hl => by
    have hlt : i < xs.length := by omega
    have hx : xs[i]? = some xs[i] := List.getElem?_eq_getElem hlt
    have ih := marks_code xs hn b hb m (i + 1) (acc.set (i / 4) (Go.bits .or .u8 (rd acc ((i / 4 : Nat) : Int)) (shl .u8 (mark xs[i]) ((2 * (i % 4) : Nat) : Int)))) (by omega) (by simpa using hl)
    rw [List.drop_eq_getElem_cons hlt]
    refine Ev.step (g := fun k => row_encode.l0 k xs (acc.set (i / 4) (Go.bits .or .u8 (rd acc ((i / 4 : Nat) : Int)) (shl .u8 (mark xs[i]) ((2 * (i % 4) : Nat) : Int)))) xs (xs.length : Int) ((i + 1 : Nat) : Int)) (fun k => ?_) ih
    simp only [row_encode.l0, tdiv4, tmod4]
    rw [wrap64_id (n := ((i / 4 : Nat) : Int)) (by omega) (by omega), wrap64_id (n := 2 * ((i % 4 : Nat) : Int)) (by omega) (by omega), wrap64_id (n := (i : Int) + 1) (by omega) (by omega), rd_get xs i _ hx, mark_code]
    rw [if_pos (by omega), if_pos (by omega), if_pos (by omega), if_pos (by omega), if_pos (by omega)]
    simp only [Option.bind_some]
    rw [if_pos (by omega)]
    have e : 2 * ((i % 4 : Nat) : Int) = ((2 * (i % 4) : Nat) : Int) := by omega
    rw [e]
    rfl
theorem marks_ref (xs : List S50) (hn : xs.length ≤ 1000) (b : List Int → List Int) (hb : ∀ acc : List Int, acc.length = (xs.length + 3) / 4 → Ev (fun k => vellumref04_bytesOf.l1 k xs acc 0) (b acc)) : ∀ (m i : Nat) (acc : List Int), i + m = xs.length → acc.length = (xs.length + 3) / 4 →
    Ev (fun k => vellumref04_bytesOf.l0 k xs acc (i : Int)) (b (setM (xs.drop i) i acc))
  | 0, i, acc, h, hl => by
    rw [List.drop_of_length_le (by omega)]
    refine Ev.step (g := fun k => vellumref04_bytesOf.l1 k xs acc 0) (fun k => ?_) (hb acc hl)
    simp only [vellumref04_bytesOf.l0]
    rw [if_neg (by omega)]
  | m + 1, i, acc, h, hl => by
    have hlt : i < xs.length := by omega
    have hx : xs[i]? = some xs[i] := List.getElem?_eq_getElem hlt
    have ih := marks_ref xs hn b hb m (i + 1) (acc.set (i / 4) (Go.bits .or .u8 (rd acc ((i / 4 : Nat) : Int)) (shl .u8 (mark xs[i]) ((2 * (i % 4) : Nat) : Int)))) (by omega) (by simpa using hl)
    rw [List.drop_eq_getElem_cons hlt]
    refine Ev.step (g := fun k => vellumref04_bytesOf.l0 k xs (acc.set (i / 4) (Go.bits .or .u8 (rd acc ((i / 4 : Nat) : Int)) (shl .u8 (mark xs[i]) ((2 * (i % 4) : Nat) : Int)))) ((i + 1 : Nat) : Int)) (fun k => ?_) ih
    simp only [vellumref04_bytesOf.l0, tdiv4, tmod4]
    rw [wrap64_id (n := ((i / 4 : Nat) : Int)) (by omega) (by omega), wrap64_id (n := ((i % 4 : Nat) : Int) * 2) (by omega) (by omega), wrap64_id (n := (i : Int) + 1) (by omega) (by omega), u64_wrap_id (n := ((i % 4 : Nat) : Int) * 2) (by omega) (by omega), rd_get xs i _ hx, mark_ref]
    rw [if_pos (by omega), if_pos (by omega), if_pos (by omega), if_pos (by omega)]
    simp only [Option.bind_some]
    rw [if_pos (by omega)]
    have e : ((i % 4 : Nat) : Int) * 2 = ((2 * (i % 4) : Nat) : Int) := by omega
    rw [e]
    rfl
theorem rowB_code (xs : List S50) (hn : xs.length ≤ 1000) (hw : ∀ v ∈ xs, wf50 v ∧ v.f3.size ≤ 65536) : Ev (fun k => row_encode.f k xs) (rowB xs) := by
  have e1 : wrap64 (Int.tdiv (wrap64 ((wrap64 (2 * (xs.length : Int))) + 7)) 8) = (((xs.length + 3) / 4 : Nat) : Int) := by
    rw [wrap64_id (n := 2 * (xs.length : Int)) (by omega) (by omega), wrap64_id (n := 2 * (xs.length : Int) + 7) (by omega) (by omega)]
    have e : Int.tdiv (2 * (xs.length : Int) + 7) 8 = (((2 * xs.length + 7) / 8 : Nat) : Int) := rfl
    rw [e, wrap64_id (by omega) (by omega)]; omega
  simp only [row_encode.f, e1]
  refine Ev.pos (by omega) (Ev.pos (by omega) ?_)
  have := marks_code xs hn (fun acc => acc ++ xs.flatMap toldB) (fun acc hl => by
    have := tails_code xs hn hw xs.length 0 acc (by omega) (by omega)
    simpa using this) xs.length 0 (List.replicate ((xs.length + 3) / 4) 0) (by omega) (by simp)
  exact this
theorem rowB_ref (xs : List S50) (hn : xs.length ≤ 1000) (hw : ∀ v ∈ xs, wf50 v ∧ v.f3.size ≤ 65536) : Ev (fun k => vellumref04_bytesOf.f k xs) (rowB xs) := by
  have e1 : wrap64 (Int.tdiv (wrap64 ((xs.length : Int) + 3)) 4) = (((xs.length + 3) / 4 : Nat) : Int) := by
    rw [wrap64_id (n := (xs.length : Int) + 3) (by omega) (by omega)]
    have e : Int.tdiv ((xs.length : Int) + 3) 4 = (((xs.length + 3) / 4 : Nat) : Int) := rfl
    rw [e, wrap64_id (by omega) (by omega)]
  simp only [vellumref04_bytesOf.f, e1]
  refine Ev.pos (by omega) (Ev.pos (by omega) ?_)
  have := marks_ref xs hn (fun acc => acc ++ xs.flatMap toldB) (fun acc hl => by
    have := tails_ref xs hn hw xs.length 0 acc (by omega) (by omega)
    simpa using this) xs.length 0 (List.replicate ((xs.length + 3) / 4) 0) (by omega) (by simp)
  exact this
theorem admRow_ok : ∀ {cs : List S105} {vs : List S50}, vs.length ≤ cs.length → admRow cs vs = 0 → ∀ v ∈ vs, chkV v = 0
  | _, [], _, _ => by simp
  | [], v :: vs, h, _ => by simp at h
  | c :: cs, v :: vs, h, h0 => by
    simp only [admRow] at h0
    by_cases hc : chk v.f0 v.f1 v.f2 v.f3 = 0
    · rw [if_neg (by simp [hc])] at h0
      have hr : admRow cs vs = 0 := by
        by_cases h1 : v.f0 = 0
        · rw [if_pos h1] at h0
          by_cases h2 : c.f2 = true
          · rwa [if_pos h2] at h0
          · rw [if_neg h2] at h0; cases h0
        · rw [if_neg h1] at h0
          by_cases h2 : v.f0 = c.f1
          · rwa [if_pos h2] at h0
          · rw [if_neg h2] at h0; cases h0
      intro x hx
      rcases List.mem_cons.1 hx with rfl | hx
      · exact hc
      · exact admRow_ok (by simpa using h) hr x hx
    · rw [if_pos hc] at h0; exact absurd h0 hc
theorem checkT_len {a : ByteArray} {c : List S105} {d : List Int} {e : List S115} {f : List S139} (h : checkT a c d e f = 0) : c.length ≤ 64 := by
  unfold checkT at h
  split at h
  · cases h
  · split at h
    · cases h
    · rename_i h2; omega
theorem admT_ok {a : ByteArray} {c : List S105} {d : List Int} {e : List S115} {f : List S139} {row : List S50} (h : admT a c d e f row = 0) : row.length ≤ 64 ∧ ∀ v ∈ row, chkV v = 0 := by
  unfold admT at h
  by_cases h0 : checkT a c d e f = 0
  · rw [if_neg (by simp [h0])] at h
    by_cases h1 : row.length = c.length
    · rw [if_neg (by simp [h1])] at h
      exact ⟨by rw [h1]; exact checkT_len h0, admRow_ok (by omega) h⟩
    · rw [if_pos h1] at h; cases h
  · rw [if_pos h0] at h; exact absurd h h0
theorem wf65_T {x : S65} (h : wf65 x) : WfT x.f0 x.f1 x.f2 x.f3 x.f4 := by
  obtain ⟨h0, h1, h2, h3, h4⟩ := h
  exact ⟨h0, fun c hc => ⟨(h1.2 c hc).1, (h1.2 c hc).2.2.2.2.2.2⟩, by omega, fun y hy => ⟨(h3.2 y hy).1, by have := (h3.2 y hy).2.1.1; omega⟩, fun y hy => ⟨(h4.2 y hy).2, by have := (h4.2 y hy).1.1; omega⟩⟩
theorem wfT_wfTB {a : ByteArray} {c : List S105} {d : List Int} {e : List S115} {f : List S139} (h : WfT a c d e f) : wfTB a c d e f = true := by
  unfold wfTB
  simp only [Bool.and_eq_true, decide_eq_true_eq, List.all_eq_true]
  exact ⟨⟨⟨⟨h.name, fun x hx => h.cols x hx⟩, h.key⟩, fun x hx => h.idx x hx⟩, fun x hx => h.refs x hx⟩
theorem admits_f {a : ByteArray} {c : List S105} {d : List Int} {e : List S115} {f : List S139} {row : List S50} (h : WfT a c d e f) (hr : ∀ v ∈ row, wf50 v) : schema_Admits.f a c d e f row = some (admT a c d e f row) := by
  unfold schema_Admits.f
  have h2 : okV row = true := List.all_eq_true.2 fun v hv => decide_eq_true (hr v hv).2.2.2
  rw [if_pos (by rw [wfT_wfTB h, h2]; rfl)]
def encR (a : ByteArray) (c : List S105) (d : List Int) (e : List S115) (f : List S139) (row : List S50) : ByteArray × Int :=
  if admT a c d e f row = 0 then (if 65536 < (rowB row).length then ((⟨#[]⟩ : ByteArray), 3) else (strOfNums (rowB row), 0)) else ((⟨#[]⟩ : ByteArray), admT a c d e f row)
theorem encR_code {a : ByteArray} {c : List S105} {d : List Int} {e : List S115} {f : List S139} {row : List S50} (h : WfT a c d e f) (hr : ∀ v ∈ row, wf50 v) : Ev (fun k => row_Encode.f k a c d e f row) (encR a c d e f row) := by
  simp only [row_Encode.f, admits_f h hr, Option.bind_some]
  unfold encR
  by_cases h0 : admT a c d e f row = 0
  · obtain ⟨g1, g2⟩ := admT_ok h0
    rw [if_pos h0]
    refine Ev.pos h0 (Ev.bind (rowB_code row (by omega) (fun v hv => ⟨hr v hv, (chk_ok (g2 v hv)).2⟩)) ?_)
    by_cases hl : 65536 < (rowB row).length
    · rw [if_pos hl]; exact Ev.pos (by omega) Ev.pure
    · rw [if_neg hl]; exact Ev.neg (by omega) Ev.pure
  · rw [if_neg h0]; exact Ev.neg h0 Ev.pure
theorem encR_ref {a : ByteArray} {c : List S105} {d : List Int} {e : List S115} {f : List S139} {row : List S50} (h : WfT a c d e f) (hr : ∀ v ∈ row, wf50 v) (hc : c.length < 9223372036854775807) (he : e.length < 9223372036854775807) (hf : f.length < 9223372036854775807) (hrow : row.length < 9223372036854775807) : Ev (fun k => vellumref04_Encode.f k a c d e f row) (encR a c d e f row) := by
  simp only [vellumref04_Encode.f]
  refine Ev.bind (admits_ev a c d e f row h hc he hf hrow (fun v hv => (hr v hv).2.2.2)) ?_
  unfold encR
  by_cases h0 : admT a c d e f row = 0
  · obtain ⟨g1, g2⟩ := admT_ok h0
    rw [if_pos h0]
    refine Ev.pos h0 (Ev.bind (rowB_ref row (by omega) (fun v hv => ⟨hr v hv, (chk_ok (g2 v hv)).2⟩)) ?_)
    by_cases hl : 65536 < (rowB row).length
    · rw [if_pos hl]; exact Ev.pos (by omega) Ev.pure
    · rw [if_neg hl]; exact Ev.neg (by omega) Ev.pure
  · rw [if_neg h0]; exact Ev.neg h0 Ev.pure
def cA : S105 := ⟨(⟨#[97]⟩ : ByteArray), 2, false, (⟨0, 0, 0, (⟨#[]⟩ : ByteArray)⟩ : S50)⟩
def cB : S105 := ⟨(⟨#[98]⟩ : ByteArray), 4, true, (⟨0, 0, 0, (⟨#[]⟩ : ByteArray)⟩ : S50)⟩
def rowS : List S50 := [(⟨2, 5, 0, (⟨#[]⟩ : ByteArray)⟩ : S50), (⟨4, 0, 0, (⟨#[97]⟩ : ByteArray)⟩ : S50)]
theorem small_wf : WfT (⟨#[116]⟩ : ByteArray) [cA, cB] [0] [] [] := by
  refine ⟨by decide, ?_, by decide, by simp, by simp⟩
  intro c hc
  simp at hc
  rcases hc with rfl | rfl
  · exact ⟨by decide, by decide⟩
  · exact ⟨by decide, by decide⟩
theorem small_row : ∀ v ∈ rowS, wf50 v := by
  intro v hv
  simp [rowS] at hv
  rcases hv with rfl | rfl
  · exact ⟨by decide, by decide, by decide, by decide⟩
  · exact ⟨by decide, by decide, by decide, by decide⟩
theorem small_adm : admT (⟨#[116]⟩ : ByteArray) [cA, cB] [0] [] [] rowS = 0 := by decide +kernel
theorem vb_small (n : Nat) (h : n < 128) : vb n = [(n : Int)] := by rw [vb.eq_1, dif_neg (by omega)]
theorem small_rowB : rowB rowS = [5, 10, 1, 97] := by
  have e1 : setM rowS 0 (List.replicate ((rowS.length + 3) / 4) 0) = [5] := by decide +kernel
  have e2 : rowS.flatMap toldB = [10, 1, 97] := by
    have h1 : toldB (⟨2, 5, 0, (⟨#[]⟩ : ByteArray)⟩ : S50) = [10] := by
      simp only [toldB]; rw [if_pos trivial]
      have : zz 5 = 10 := by decide
      rw [this, vb_small 10 (by decide)]; rfl
    have h2 : toldB (⟨4, 0, 0, (⟨#[97]⟩ : ByteArray)⟩ : S50) = [1, 97] := by
      simp only [toldB]
      rw [if_neg (by decide), if_neg (by decide), if_pos (by decide)]
      have : (⟨#[97]⟩ : ByteArray).size = 1 := rfl
      rw [this, vb_small 1 (by decide)]; rfl
    simp only [rowS, List.flatMap_cons, List.flatMap_nil, h1, h2]; rfl
  unfold rowB
  rw [e1, e2]; rfl
theorem awake4_ev : Ev (fun k => vellumlaw04_awake.f k) true := by
  simp only [vellumlaw04_awake.f, vellumlaw04_small.f, Option.bind_some]
  have h := encR_code small_wf small_row
  have he : encR (⟨#[116]⟩ : ByteArray) [cA, cB] [0] [] [] rowS = (strOfNums [5, 10, 1, 97], 0) := by
    unfold encR
    rw [if_pos small_adm, small_rowB, if_neg (by decide)]
  rw [he] at h
  refine Ev.bind h ?_
  exact Ev.pos rfl (Ev.const (by decide +kernel))
theorem RowEncodes (x0 : S65) (l1 : List S50) (h0 : wf65 x0) (h1 : l1.length * 40 ≤ 140737488351232 ∧ ∀ y ∈ l1, wf50 y) : ∃ k, vellumlaw04_RowEncodes.f k x0.f0 x0.f1 x0.f2 x0.f3 x0.f4 l1 = some true := by
  refine Ev.ex ?_
  simp only [vellumlaw04_RowEncodes.f]
  have hT := wf65_T h0
  obtain ⟨_, g1, _, g3, g4⟩ := h0
  exact Ev.bind (encR_code hT h1.2) (Ev.bind (encR_ref hT h1.2 (by omega) (by omega) (by omega) (by omega)) (Ev.pos rfl (Ev.pos rfl (Ev.bind awake4_ev Ev.pure))))
end Go.Proofs.YtpiifdbicibelaaDoor.Pure
end
section
namespace Go.Proofs.YtpiifdbicibelaaDoor
open Go.RowKit
theorem main_ : Tryd.pinned.checked.prog.mainIs = some (true, "409e20a6319c123f59629b35fea50f486835097bfbed967dc062cdc0fc9eff79".toList) := by kernel_rfl
theorem looks_ : false = Tryd.prog.looks [] := by kernel_rfl
end Go.Proofs.YtpiifdbicibelaaDoor
end
section
namespace Go.Proofs.YtpiifdbicibelaaDoor.rowEncodes
open Go.ChangeShapes Go.WideShapes Go.ChangeAt Go.RowKit Go.Proofs.YtpiifdbicibelaaDoorW.PrintWords Go.Proofs.YtpiifdbicibelaaDoor.PA Go.Proofs.YtpiifdbicibelaaDoor.OpenK Go.Proofs.YtpiifdbicibelaaDoor.Pure
open Go.ChangeMaps (open_string shut_string)
set_option linter.unusedVariables false
theorem walk {H : Type} {enc : TypeId × Value → H} (W : World) (base : Nat) (args : Array Value) (ds : List (DataW H)) (ps : List MemPlace) (hA0 : DataW.TrodAll enc Tryd.prog W 0 (fun _ => true) true Tryd.f13.params.toList args.toList ds ps)
    (hw0 : (DataW.weightsEach Tryd.prog Tryd.f13.params.toList ds).all (· ≤ reachBytes) = true) (hval0 : ∀ (j : Nat) t v, Tryd.f13.params[j]? = some t → args[j]? = some v → Value.okWide Tryd.prog W .any base t v) (hG : Glob W) :
    Calls Tryd.prog 13 args W fun e W' => e = .returned (.bool true) ∧ Below W.heap.size W W' := by
  have hval : ∀ (j : Nat) t v, Tryd.f13.params[j]? = some t → args[j]? = some v → Value.okWide Tryd.prog W .any base t v := @hval0
  have hA : DataW.TrodAll enc Tryd.prog W 0 (fun _ => true) true Tryd.f13.params.toList args.toList ds ps := hA0
  have hw : (DataW.weightsEach Tryd.prog Tryd.f13.params.toList ds).all (· ≤ reachBytes) = true := hw0
  rw [Tryd.params13] at hA hval hw
  clear hA0 hw0 hval0
  obtain ⟨v0, vs0, d0, ds0, p0, q0, hargs, rfl, rfl, h0, r0⟩ := trodAll_cons hA
  obtain ⟨v1, vs1, d1, ds1, p1, q1, rfl, rfl, rfl, h1, r1⟩ := trodAll_cons r0
  obtain ⟨rfl, rfl, rfl⟩ := trodAll_nil r1
  obtain rfl : args = #[v0, v1] := by cases args; simp_all
  simp only [DataW.weightsEach, all_append_iff] at hw
  obtain ⟨hw0, hw1, _⟩ := hw
  obtain ⟨fuel0, hf0⟩ := h0
  obtain ⟨x0, hK0, wf0_⟩ := opn65 hf0 hw0
  -- STRUCT 0
  obtain ⟨A0_1, c0_1, A0_2, c0_2, A0_3, c0_3, A0_4, c0_4, he0, hl0_1, hC0_1, hl0_2, hC0_2, hl0_3, hC0_3, hl0_4, hC0_4⟩ := k65_open hK0
  obtain rfl : v0 = .agg #[.string x0.f0, .slice A0_1 x0.f1.length c0_1, .slice A0_2 x0.f2.length c0_2, .slice A0_3 x0.f3.length c0_3, .slice A0_4 x0.f4.length c0_4] := agg_of_cells he0 (by simp)
  obtain ⟨a1, len1, cap1, rfl⟩ := arg_slice (j := 1) @hval rfl rfl Tryd.underlying22
  obtain ⟨fuel1, hf1⟩ := h1
  obtain ⟨l1, ⟨A1, c1, he1, hl1, hC1⟩, wf1_⟩ := (Opn.slice Tryd.underlying22 opn50 (by kernel_rfl) (by kernel_rfl)) hf1 hw1
  simp [Value.cells] at he1
  obtain ⟨rfl, rfl, rfl⟩ := he1
  obtain ⟨k, h⟩ := RowEncodes x0 l1 wf0_ wf1_
  refine (vellumlaw04_RowEncodes.calls k x0.f0 _ _ x0.f1 _ _ x0.f2 _ _ x0.f3 _ _ x0.f4 _ _ l1 true W hC0_1 hl0_1 hC0_2 hl0_2 hC0_3 hl0_3 hC0_4 hl0_4 hC1 hl1 hG h).mono ?_
  rintro e W' ⟨rfl, hd⟩
  exact ⟨rfl, hd⟩
theorem witness_row (os : Os) {H : Type} (enc : TypeId × Value → H) :
    (OpenSpec.ofChange Rows.rowEncodesSpec).preRow enc Tryd.prog Tryd.f13 [] false laidList ((laidWorld os).forCall (fun _ _ => 0) ⟨#[], #[.agg #[.string ByteArray.empty, .slice none 0 0, .slice none 0 0, .slice none 0 0, .slice none 0 0], .slice none 0 0], []⟩).memory #[.agg #[.string ByteArray.empty, .slice none 0 0, .slice none 0 0, .slice none 0 0, .slice none 0 0], .slice none 0 0] := by
  have hw : (DataW.whole enc Tryd.prog ((laidWorld os).forCall (fun _ _ => 0) ⟨#[], #[.agg #[.string ByteArray.empty, .slice none 0 0, .slice none 0 0, .slice none 0 0, .slice none 0 0], .slice none 0 0], []⟩).memory Tryd.f13.params.toList (OpenSpec.ofChange Rows.rowEncodesSpec).vars false (#[.agg #[.string ByteArray.empty, .slice none 0 0, .slice none 0 0, .slice none 0 0, .slice none 0 0], .slice none 0 0] : Array Value).toList 8).map (fun x => (x.1, x.2.1)) = some ([.agg [.lit (.string []), .nil, .nil, .nil, .nil], .nil], []) := by kernel_rfl
  obtain ⟨⟨x1, x2, x3⟩, hx, hx1⟩ := Option.map_eq_some_iff.1 hw
  simp only [Prod.mk.injEq] at hx1
  obtain ⟨rfl, rfl⟩ := hx1
  exact OpenSpec.preRow_of_cond 8 hx (by kernel_rfl) (fun k hk => by cases hk) (by kernel_rfl) (laid_met os _)
theorem ends {os : Os} (started : os.Started) {H : Type} {enc : TypeId × Value → H} {F : Stop.Interp} : ReturnsInHanded { modest := false } Tryd.checked os 13 .any ((OpenSpec.ofChange Rows.rowEncodesSpec).preRow enc Tryd.prog Tryd.f13 [] false laidList) (((OpenSpec.ofChange Rows.rowEncodesSpec).at F).post enc Tryd.prog Tryd.f13 false true false false) :=
  law_lifted (spec := Rows.rowEncodesSpec) Tryd.func13 (by kernel_rfl) (tb := 4) rfl Tryd.underlying4 (by kernel_rfl) rfl
    (fun H ds hl => by
      match ds, hl with
      | [_, _], _ => rfl) started
    (witness_row_atRef (enc := enc) (C := Tryd.checked) false (laidWorld os) #[.agg #[.string ByteArray.empty, .slice none 0 0, .slice none 0 0, .slice none 0 0, .slice none 0 0], .slice none 0 0] rfl (by kernel_rfl) (by kernel_rfl) (by kernel_rfl) (witness_row os enc))
    (fun W base args ds ps hA hw hval hG => walk W base args ds ps hA hw @hval hG)
theorem inPlace_ : Tryd.prog.inPlace 13 = Rows.rowEncodesRow.inPlace := by kernel_rfl
theorem unfollowed_ : Tryd.prog.unfollowed 13 = Rows.rowEncodesRow.unfollowed := by kernel_rfl
theorem recurses_ : Tryd.prog.recurses 13 = Rows.rowEncodesRow.recurses := by kernel_rfl
theorem named_ : Tryd.prog.varsNamed 13 = Rows.rowEncodesRow.named := by kernel_rfl
theorem closed : joinedFacts Tryd.prog 13 Tryd.f13 (OpenSpec.ofChange Rows.rowEncodesSpec).bare Rows.rowEncodesRow = true := by
  unfold joinedFacts
  rw [laidOut, mapsRowed_, stops_, stopKnobs_, plainKeys_, stopsHeard_, mayEnter_, lifts_, make_, inPlace_, unfollowed_, recurses_, named_]
  kernel_rfl
set_option maxRecDepth 100000 in
theorem over : Rows.rowEncodesRow.holds Tryd.pinned (OpenSpec.ofChange Rows.rowEncodesSpec) :=
  OpenClaim.holds_of_cond 13 Tryd.f13 rfl rfl rfl rfl rfl rfl rfl ⟨rfl, rfl, rfl, rfl, rfl⟩ rfl rfl rfl rfl rfl (by kernel_rfl) Tryd.func13 closed
    (of_decide_eq_true (by kernel_rfl)) (by unfold Func.isWrapper; rw [if_neg (of_decide_eq_false (by kernel_rfl))]; exact ⟨rfl, rfl⟩)
    (fun os started H enc _ F => by
      rw [OpenClaim.pre_eq_preRow]
      exact ends started)
theorem goes_ : false = Rows.rowEncodesRow.goesBy Tryd.prog := by kernel_rfl
theorem fnamed_ : Tryd.prog.funcNamed "vellum/vellumlaw04.RowEncodes" = some 13 := by kernel_rfl
theorem card : Rows.RowEncodesCardSaid :=
  Claim7.holds_tied_plain_at .later [] [.data, .pinned] true (true, "409e20a6319c123f59629b35fea50f486835097bfbed967dc062cdc0fc9eff79") false
    over (fun _ h => by cases h) (by kernel_rfl) (fun _ h => by cases h) rowEncodes_row_tie rfl ⟨rfl, rfl⟩ main_ rfl
    (fun f fn hf hfn => by
      obtain rfl : f = 13 := Option.some.inj (fnamed_.symm.trans hf) |>.symm
      obtain rfl : fn = Tryd.f13 := (Option.some.inj (Tryd.func13.symm.trans hfn)).symm
      exact ⟨looks_, fun j t ht => by
        rw [Tryd.params13] at ht
        have h3 : t ∈ [65, 22] := by
          have := List.mem_of_getElem? (l := [65, 22]) (i := j) (by simpa using ht)
          exact this
        have h4 : ∀ t ∈ [65, 22], Tryd.prog.wantsStandIn t = false := by
          intro t ht
          simp only [List.mem_cons, List.mem_nil_iff, or_false] at ht
          rcases ht with rfl | rfl
          all_goals kernel_rfl
        exact h4 t h3⟩)
    goes_
end Go.Proofs.YtpiifdbicibelaaDoor.rowEncodes
namespace Go.Proofs.YtpiifdbicibelaaDoor
theorem rowEncodes_holds : Rows.RowEncodesCardSaid := rowEncodes.card
end Go.Proofs.YtpiifdbicibelaaDoor
end
