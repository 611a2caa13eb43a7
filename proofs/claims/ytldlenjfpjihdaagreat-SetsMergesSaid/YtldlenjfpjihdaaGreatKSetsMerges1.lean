/- Part 2 of what the proof of SetsMerges stands on: words for walks, printed functions with their contracts, plain laws. -/
import Derived.Test.YtldlenjfpjihdaaGreatKSetsMerges0
section
namespace Go.Proofs.YtldlenjfpjihdaaGreat.PS
open Go.RowKit Go.Proofs.YtldlenjfpjihdaaGreatW.PrintWords Go.Proofs.YtldlenjfpjihdaaGreatW.PrintLast Go.Proofs.YtldlenjfpjihdaaGreatW.PrintMore
attribute [local go_sem] max2_int min2_int max_two min_two max_three min_three max_four min_four
set_option linter.unusedVariables false
set_option linter.unusedSimpArgs false
def vellumref17_Copy.f (k : Nat) (l0_0 : List (S37)) (l0_1 : List (S46)) (l0_2 : List (S37)) : Option ((List (S37)) × (List (S46)) × (List (S37))) := (vellumref17_both.f k l0_0 l0_1 l0_2 ([] : List (S37)) ([] : List (S46)) ([] : List (S37))).bind fun bt131 => (some (bt131.1, bt131.2.1, bt131.2.2))
set_option maxHeartbeats 8000000 in
set_option maxRecDepth 100000 in
theorem vellumref17_Copy.calls (k : Nat) (A0_0 : Option Addr) (c0_0 : Nat) (l0_0 : List (S37)) (A0_1 : Option Addr) (c0_1 : Nat) (l0_1 : List (S46)) (A0_2 : Option Addr) (c0_2 : Nat) (l0_2 : List (S37)) (r1 : List (S37)) (r2 : List (S46)) (r3 : List (S37)) (w : World) (hr0_0 : Kd.C k37 w A0_0 l0_0.length l0_0) (hc0_0 : l0_0.length ≤ c0_0) (hr0_1 : Kd.C k46 w A0_1 l0_1.length l0_1) (hc0_1 : l0_1.length ≤ c0_1) (hr0_2 : Kd.C k37 w A0_2 l0_2.length l0_2) (hc0_2 : l0_2.length ≤ c0_2) (h : vellumref17_Copy.f k l0_0 l0_1 l0_2 = some (r1, r2, r3)) :
  Calls Tryz.prog 8 #[.agg #[.slice A0_0 l0_0.length c0_0, .slice A0_1 l0_1.length c0_1, .slice A0_2 l0_2.length c0_2]] w fun e w' => ∃ v0_ v1_ v2_ : Value, e = .returned (.agg #[v0_, v1_, v2_]) ∧ Kd.R k37 37 w' w.heap.size (fun k_ => some k_ ≠ (v2_ : Value).ownBlock) v0_ r1 ∧ Kd.R k46 46 w' w.heap.size (fun _ => True) v1_ r2 ∧ Kd.R k37 37 w' w.heap.size (fun k_ => some k_ ≠ (v0_ : Value).ownBlock) v2_ r3 ∧ Below w.heap.size w w' := by
 have hu25 := Tryz.underlying25
 have HR0_0 := am hr0_0
 have HC0_0 := am hc0_0
 clear hr0_0 hc0_0
 have HR0_1 := am hr0_1
 have HC0_1 := am hc0_1
 clear hr0_1 hc0_1
 have HR0_2 := am hr0_2
 have HC0_2 := am hc0_2
 clear hr0_2 hc0_2
 have HB := am (Below.refl w.heap.size w)
 have H : ((vellumref17_both.f k l0_0 l0_1 l0_2 ([] : List (S37)) ([] : List (S46)) ([] : List (S37))).bind fun bt131 => (some (bt131.1, bt131.2.1, bt131.2.2))) = some (r1, r2, r3) := h
 clear h
 replace H := Option.bind_eq_some_iff.mp H
 obtain ⟨⟨t131, t134, t137⟩, A20, H⟩ := H
 replace H : (some (t131, t134, t137)) = some (r1, r2, r3) := H
 have A2 := am A20
 clear A20
 simp only [Option.some.injEq, Prod.mk.injEq] at H
 obtain ⟨rfl, rfl, rfl⟩ := H
 go_enter Tryz.func8, Tryz.ntmps8
 go_wp2_with (first | ((with_reducible refine gate_dst (N := 1) rfl ?_); refine box_event rfl (N := 1) rfl (cs := #[.slice A0_0 l0_0.length c0_0, .slice A0_1 l0_1.length c0_1, .slice A0_2 l0_2.length c0_2]) (t := 25) gs ?_; intro gb129 hg w3 hbox hb; have BK129 := am (hbox); have GW129 := gw hg HB; have GE129 := gw hg HB; replace HB := sb HB hb; clear hb hbox hg) | ((with_reducible refine gate_dst (N := 2) rfl ?_); refine box_event rfl (N := 2) rfl (cs := #[.slice none 0 0, .slice none 0 0, .slice none 0 0]) (t := 25) gs ?_; intro gb130 hg w4 hbox hb; have BK130 := am (hbox); have GW130 := gw hg HB; have GE130 := gw hg HB; have NB129_130 := am ((by rw [hg]; exact Nat.ne_of_lt (blk_lt (bk BK129)) : gb129 ≠ gb130)); have NB130_129 := am ((by rw [hg]; exact Nat.ne_of_gt (blk_lt (bk BK129)) : gb130 ≠ gb129)); replace BK129 := kb BK129 hb; replace HB := sb HB hb; clear hb hbox hg; have hnb5 := NB129_130.out; have hnc5 := NB130_129.out; obtain ⟨Z6_0, Z6_1, Z6_2, Y6_0, Y6_1, Y6_2⟩ := bq3 BK129) | ((with_reducible refine gate_callee (f := 21) rfl ?_); refine goesL_ (some 5) rfl rfl Tryz.func21 (by kernel_rfl) rfl #[.agg #[.slice A0_0 l0_0.length c0_0, .slice A0_1 l0_1.length c0_1, .slice A0_2 l0_2.length c0_2], .agg #[.slice none 0 0, .slice none 0 0, .slice none 0 0]] rfl ar ?_; (refine (vellumref17_both.calls k _ _ l0_0 _ _ l0_1 _ _ l0_2 _ _ ([] : List (S37)) _ _ ([] : List (S46)) _ _ ([] : List (S37)) t131 t134 t137 _ ?side1 ?side2 ?side3 ?side4 ?side5 ?side6 ?side7 ?side8 ?side9 ?side10 ?side11 ?side12 A2.out).mono ?_); (case side1 => exact Kd.cb HR0_0 HB); (case side2 => exact HC0_0.out); (case side3 => exact Kd.cb HR0_1 HB); (case side4 => exact HC0_1.out); (case side5 => exact Kd.cb HR0_2 HB); (case side6 => exact HC0_2.out); (case side7 => exact Kd.C_nil _ _); (case side8 => exact Nat.le_refl _); (case side9 => exact Kd.C_nil _ _); (case side10 => exact Nat.le_refl _); (case side11 => exact Kd.C_nil _ _); (case side12 => exact Nat.le_refl _); rintro e w7 ⟨v132, v135, v138, rfl, ho0, ho1, ho2, hb⟩; refine ⟨_, rfl, ?_⟩; have n0_ := am (Kd.R_lower ho0 (below_size (bl HB))); have n1_ := am (Kd.R_lower ho1 (below_size (bl HB))); have n2_ := am (Kd.R_lower ho2 (below_size (bl HB))); have n3_ := kb BK129 hb; have n4_ := kb BK130 hb; have n5_ := sb HB hb; clear BK129; clear BK130; clear HB; have HO133 := n0_; have HO136 := n1_; have HO139 := n2_; have BK129 := n3_; have BK130 := n4_; have HB := n5_; clear n0_ n1_ n2_ n3_ n4_ n5_; (try clear hb); (try clear hb2 hk hi); (try clear ho0); (try clear ho1); (try clear ho2); obtain ⟨Ao8, co8, eo8⟩ := Kd.R_slice HO133.out; subst eo8; obtain ⟨Z9_0, Z9_1, Z9_2, Y9_0, Y9_1, Y9_2⟩ := bq3 BK130; obtain ⟨Ao10, co10, eo10⟩ := Kd.R_slice HO136.out; subst eo10; obtain ⟨Ao11, co11, eo11⟩ := Kd.R_slice HO139.out; subst eo11))
 refine bodyPost_ret (results_cell_row rfl _ _ gb130 25 #[.slice Ao8 t131.length co8, .slice Ao10 t134.length co10, .slice Ao11 t137.length co11] (0, 0) _ rfl (by refine rp ?_; refine blk_put (cs := #[.slice Ao8 t131.length co8, .slice Ao10 t134.length co10, .slice none 0 0]) ?_ 2 _ rfl; refine rp ?_; refine blk_put (cs := #[.slice Ao8 t131.length co8, .slice none 0 0, .slice none 0 0]) ?_ 1 _ rfl; refine rp ?_; refine blk_put (cs := #[.slice none 0 0, .slice none 0 0, .slice none 0 0]) ?_ 0 _ rfl; exact bk BK130) Tryz.underlying25 rfl (by kernel_rfl)) rfl ?_
 exact ⟨_, _, _, er, by (with_reducible repeat (first | apply Kd.R_alloc | apply Kd.R_drewN | apply Kd.R_drew)); exact Kd.R_mono (Kd.R_far (p := ⟨gb130, 2, none⟩) (Kd.R_far (p := ⟨gb130, 1, none⟩) (Kd.R_far (p := ⟨gb130, 0, none⟩) (Kd.R_types HO133.out BK130.out (by decide)) (fun _ hk => hk.2) (.slice Ao8 t131.length co8)) (fun _ hk => hk.2) (.slice Ao10 t134.length co10)) (fun _ hk => hk.2) (.slice Ao11 t137.length co11)) (fun _ hk => hk.1), by (with_reducible repeat (first | apply Kd.R_alloc | apply Kd.R_drewN | apply Kd.R_drew)); exact Kd.R_mono (Kd.R_far (p := ⟨gb130, 2, none⟩) (Kd.R_far (p := ⟨gb130, 1, none⟩) (Kd.R_far (p := ⟨gb130, 0, none⟩) (Kd.R_types HO136.out BK130.out (by decide)) (fun _ hk => hk.2) (.slice Ao8 t131.length co8)) (fun _ hk => hk.2) (.slice Ao10 t134.length co10)) (fun _ hk => hk.2) (.slice Ao11 t137.length co11)) (fun _ hk => trivial), by (with_reducible repeat (first | apply Kd.R_alloc | apply Kd.R_drewN | apply Kd.R_drew)); exact Kd.R_mono (Kd.R_far (p := ⟨gb130, 2, none⟩) (Kd.R_far (p := ⟨gb130, 1, none⟩) (Kd.R_far (p := ⟨gb130, 0, none⟩) (Kd.R_types HO139.out BK130.out (by decide)) (fun _ hk => hk.2) (.slice Ao8 t131.length co8)) (fun _ hk => hk.2) (.slice Ao10 t134.length co10)) (fun _ hk => hk.2) (.slice Ao11 t137.length co11)) (fun _ hk => hk.1), bl HB⟩
end Go.Proofs.YtldlenjfpjihdaaGreat.PS
end
section
namespace Go.Proofs.YtldlenjfpjihdaaGreat.PS
open Go.RowKit Go.Proofs.YtldlenjfpjihdaaGreatW.PrintWords Go.Proofs.YtldlenjfpjihdaaGreatW.PrintLast Go.Proofs.YtldlenjfpjihdaaGreatW.PrintMore
attribute [local go_sem] max2_int min2_int max_two min_two max_three min_three max_four min_four
set_option linter.unusedVariables false
set_option linter.unusedSimpArgs false
attribute [local go_sem high] eqA37 eqA46
mutual
def vellumref17_Same.j0 : Nat → Bool → List (S37) → List (S46) → List (S37) → List (S37) → List (S46) → List (S37) → Option (Bool)
 | 0, _, _, _, _, _, _, _ => none
 | k + 1, x32, x141000, x141001, x141002, x142000, x142001, x142002 => if x32 = true then (some false) else (vellumref17_Same.l0 k 0 x141000 x141001 x141002 x142000 x142001 x142002)
def vellumref17_Same.l0 : Nat → Int → List (S37) → List (S46) → List (S37) → List (S37) → List (S46) → List (S37) → Option (Bool)
 | 0, _, _, _, _, _, _, _ => none
 | k + 1, x5, x141000, x141001, x141002, x142000, x142001, x142002 => if x5 < (x141000.length : Int) then (if 0 ≤ x5 then (if x5 < (x142000.length : Int) then (if (!(((rd_T37 x141000 x5).f0) == ((rd_T37 x142000 x5).f0)) || (!(((rd_T37 x141000 x5).f1) == ((rd_T37 x142000 x5).f1)) || (!((((rd_T37 x141000 x5).f2).toList) == (((rd_T37 x142000 x5).f2).toList))))) = true then (some false) else (vellumref17_Same.l0 k (wrap64 (x5 + 1)) x141000 x141001 x141002 x142000 x142001 x142002)) else (none)) else (none)) else (vellumref17_Same.l1 k 0 x141000 x141001 x141002 x142000 x142001 x142002)
def vellumref17_Same.l1 : Nat → Int → List (S37) → List (S46) → List (S37) → List (S37) → List (S46) → List (S37) → Option (Bool)
 | 0, _, _, _, _, _, _, _ => none
 | k + 1, x6, x141000, x141001, x141002, x142000, x142001, x142002 => if x6 < (x141001.length : Int) then (if 0 ≤ x6 then (if x6 < (x142001.length : Int) then (if (!(((rd_T46 x141001 x6).f0) == ((rd_T46 x142001 x6).f0)) || (!(((rd_T46 x141001 x6).f1) == ((rd_T46 x142001 x6).f1)) || ((!((((rd_T46 x141001 x6).f2.f0).toList) == (((rd_T46 x142001 x6).f2.f0).toList)) || (!((((rd_T46 x141001 x6).f2.f1).toList) == (((rd_T46 x142001 x6).f2.f1).toList)) || (!(((rd_T46 x141001 x6).f2.f2) == ((rd_T46 x142001 x6).f2.f2)))))))) = true then (some false) else (vellumref17_Same.l1 k (wrap64 (x6 + 1)) x141000 x141001 x141002 x142000 x142001 x142002)) else (none)) else (none)) else (vellumref17_Same.l2 k 0 x141000 x141001 x141002 x142000 x142001 x142002)
def vellumref17_Same.l2 : Nat → Int → List (S37) → List (S46) → List (S37) → List (S37) → List (S46) → List (S37) → Option (Bool)
 | 0, _, _, _, _, _, _, _ => none
 | k + 1, x7, x141000, x141001, x141002, x142000, x142001, x142002 => if x7 < (x141002.length : Int) then (if 0 ≤ x7 then (if x7 < (x142002.length : Int) then (if (!(((rd_T37 x141002 x7).f0) == ((rd_T37 x142002 x7).f0)) || (!(((rd_T37 x141002 x7).f1) == ((rd_T37 x142002 x7).f1)) || (!((((rd_T37 x141002 x7).f2).toList) == (((rd_T37 x142002 x7).f2).toList))))) = true then (some false) else (vellumref17_Same.l2 k (wrap64 (x7 + 1)) x141000 x141001 x141002 x142000 x142001 x142002)) else (none)) else (none)) else (some true)
end
def vellumref17_Same.f (k : Nat) (l0_0 : List (S37)) (l0_1 : List (S46)) (l0_2 : List (S37)) (l1_0 : List (S37)) (l1_1 : List (S46)) (l1_2 : List (S37)) : Option (Bool) := if (l0_0.length : Int) = (l1_0.length : Int) then (if (l0_1.length : Int) = (l1_1.length : Int) then (vellumref17_Same.j0 k ((l0_2.length : Int) != (l1_2.length : Int)) l0_0 l0_1 l0_2 l1_0 l1_1 l1_2) else (vellumref17_Same.j0 k true l0_0 l0_1 l0_2 l1_0 l1_1 l1_2)) else (vellumref17_Same.j0 k true l0_0 l0_1 l0_2 l1_0 l1_1 l1_2)
set_option maxHeartbeats 8000000 in
set_option maxRecDepth 100000 in
theorem vellumref17_Same.calls (k : Nat) (A0_0 : Option Addr) (c0_0 : Nat) (l0_0 : List (S37)) (A0_1 : Option Addr) (c0_1 : Nat) (l0_1 : List (S46)) (A0_2 : Option Addr) (c0_2 : Nat) (l0_2 : List (S37)) (A1_0 : Option Addr) (c1_0 : Nat) (l1_0 : List (S37)) (A1_1 : Option Addr) (c1_1 : Nat) (l1_1 : List (S46)) (A1_2 : Option Addr) (c1_2 : Nat) (l1_2 : List (S37)) (r : Bool) (w : World) (hr0_0 : Kd.C k37 w A0_0 l0_0.length l0_0) (hc0_0 : l0_0.length ≤ c0_0) (hr0_1 : Kd.C k46 w A0_1 l0_1.length l0_1) (hc0_1 : l0_1.length ≤ c0_1) (hr0_2 : Kd.C k37 w A0_2 l0_2.length l0_2) (hc0_2 : l0_2.length ≤ c0_2) (hr1_0 : Kd.C k37 w A1_0 l1_0.length l1_0) (hc1_0 : l1_0.length ≤ c1_0) (hr1_1 : Kd.C k46 w A1_1 l1_1.length l1_1) (hc1_1 : l1_1.length ≤ c1_1) (hr1_2 : Kd.C k37 w A1_2 l1_2.length l1_2) (hc1_2 : l1_2.length ≤ c1_2) (h : vellumref17_Same.f k l0_0 l0_1 l0_2 l1_0 l1_1 l1_2 = some r) :
  Calls Tryz.prog 10 #[.agg #[.slice A0_0 l0_0.length c0_0, .slice A0_1 l0_1.length c0_1, .slice A0_2 l0_2.length c0_2], .agg #[.slice A1_0 l1_0.length c1_0, .slice A1_1 l1_1.length c1_1, .slice A1_2 l1_2.length c1_2]] w fun e w' => e = .returned (.bool r) ∧ Below w.heap.size w w' := by
 have hu25 := Tryz.underlying25
 have hu37 := Tryz.underlying37
 have hu46 := Tryz.underlying46
 have HR0_0 := am hr0_0
 have HC0_0 := am hc0_0
 clear hr0_0 hc0_0
 have HR0_1 := am hr0_1
 have HC0_1 := am hc0_1
 clear hr0_1 hc0_1
 have HR0_2 := am hr0_2
 have HC0_2 := am hc0_2
 clear hr0_2 hc0_2
 have HR1_0 := am hr1_0
 have HC1_0 := am hc1_0
 clear hr1_0 hc1_0
 have HR1_1 := am hr1_1
 have HC1_1 := am hc1_1
 clear hr1_1 hc1_1
 have HR1_2 := am hr1_2
 have HC1_2 := am hc1_2
 clear hr1_2 hc1_2
 have HB := am (Below.refl w.heap.size w)
 have H : (if (l0_0.length : Int) = (l1_0.length : Int) then (if (l0_1.length : Int) = (l1_1.length : Int) then (vellumref17_Same.j0 k ((l0_2.length : Int) != (l1_2.length : Int)) l0_0 l0_1 l0_2 l1_0 l1_1 l1_2) else (vellumref17_Same.j0 k true l0_0 l0_1 l0_2 l1_0 l1_1 l1_2)) else (vellumref17_Same.j0 k true l0_0 l0_1 l0_2 l1_0 l1_1 l1_2)) = some r := h
 clear h
 have HC3 := am H
 clear H
 go_enter Tryz.func10, Tryz.ntmps10
 go_upto_region 1 with (first | ((with_reducible refine gate_dst (N := 2) rfl ?_); (try (refine gate_guard (by rfl) ?_; dsimp only)); refine box_event rfl (N := 2) rfl (cs := #[.slice A0_0 l0_0.length c0_0, .slice A0_1 l0_1.length c0_1, .slice A0_2 l0_2.length c0_2]) (t := 25) gs ?_; intro gb140 hg w4 hbox hb; have BK140 := am (hbox); have GW140 := gw hg HB; have GE140 := gw hg HB; replace HB := sb HB hb; clear hb hbox hg) | ((with_reducible refine gate_dst (N := 3) rfl ?_); (try (refine gate_guard (by rfl) ?_; dsimp only)); refine box_event rfl (N := 3) rfl (cs := #[.slice A1_0 l1_0.length c1_0, .slice A1_1 l1_1.length c1_1, .slice A1_2 l1_2.length c1_2]) (t := 25) gs ?_; intro gb141 hg w5 hbox hb; have BK141 := am (hbox); have GW141 := gw hg HB; have GE141 := gw hg HB; have NB140_141 := am ((by rw [hg]; exact Nat.ne_of_lt (blk_lt (bk BK140)) : gb140 ≠ gb141)); have NB141_140 := am ((by rw [hg]; exact Nat.ne_of_gt (blk_lt (bk BK140)) : gb141 ≠ gb140)); replace BK140 := kb BK140 hb; replace HB := sb HB hb; clear hb hbox hg))
 repeat (go_quiet (first | ((with_reducible refine gate_dst (N := 2) rfl ?_); (try (refine gate_guard (by rfl) ?_; dsimp only)); refine box_event rfl (N := 2) rfl (cs := #[.slice A0_0 l0_0.length c0_0, .slice A0_1 l0_1.length c0_1, .slice A0_2 l0_2.length c0_2]) (t := 25) gs ?_; intro gb140 hg w4 hbox hb; have BK140 := am (hbox); have GW140 := gw hg HB; have GE140 := gw hg HB; replace HB := sb HB hb; clear hb hbox hg) | ((with_reducible refine gate_dst (N := 3) rfl ?_); (try (refine gate_guard (by rfl) ?_; dsimp only)); refine box_event rfl (N := 3) rfl (cs := #[.slice A1_0 l1_0.length c1_0, .slice A1_1 l1_1.length c1_1, .slice A1_2 l1_2.length c1_2]) (t := 25) gs ?_; intro gb141 hg w5 hbox hb; have BK141 := am (hbox); have GW141 := gw hg HB; have GE141 := gw hg HB; have NB140_141 := am ((by rw [hg]; exact Nat.ne_of_lt (blk_lt (bk BK140)) : gb140 ≠ gb141)); have NB141_140 := am ((by rw [hg]; exact Nat.ne_of_gt (blk_lt (bk BK140)) : gb141 ≠ gb140)); replace BK140 := kb BK140 hb; replace HB := sb HB hb; clear hb hbox hg)); go_upto_region 1 with (first | ((with_reducible refine gate_dst (N := 2) rfl ?_); (try (refine gate_guard (by rfl) ?_; dsimp only)); refine box_event rfl (N := 2) rfl (cs := #[.slice A0_0 l0_0.length c0_0, .slice A0_1 l0_1.length c0_1, .slice A0_2 l0_2.length c0_2]) (t := 25) gs ?_; intro gb140 hg w4 hbox hb; have BK140 := am (hbox); have GW140 := gw hg HB; have GE140 := gw hg HB; replace HB := sb HB hb; clear hb hbox hg) | ((with_reducible refine gate_dst (N := 3) rfl ?_); (try (refine gate_guard (by rfl) ?_; dsimp only)); refine box_event rfl (N := 3) rfl (cs := #[.slice A1_0 l1_0.length c1_0, .slice A1_1 l1_1.length c1_1, .slice A1_2 l1_2.length c1_2]) (t := 25) gs ?_; intro gb141 hg w5 hbox hb; have BK141 := am (hbox); have GW141 := gw hg HB; have GE141 := gw hg HB; have NB140_141 := am ((by rw [hg]; exact Nat.ne_of_lt (blk_lt (bk BK140)) : gb140 ≠ gb141)); have NB141_140 := am ((by rw [hg]; exact Nat.ne_of_gt (blk_lt (bk BK140)) : gb141 ≠ gb140)); replace BK140 := kb BK140 hb; replace HB := sb HB hb; clear hb hbox hg)))
 (try simp only [Act.put, List.setIfInBounds_toArray, List.set_cons_zero, List.set_cons_succ])
 go_cut [32] (fun v32 wc => ∃ (kq : Nat) (x32_2 : Bool), v32 = .bool x32_2 ∧ Aside0 (vellumref17_Same.j0 kq x32_2 l0_0 l0_1 l0_2 l1_0 l1_1 l1_2 = some r) ∧ Aside0 (kq ≤ k) ∧ Aside0 (wc.heap[gb140]? = some (.cells #[(.slice A0_0 l0_0.length c0_0), (.slice A0_1 l0_1.length c0_1), (.slice A0_2 l0_2.length c0_2)] 25 (0, 0))) ∧ Aside0 (wc.heap[gb141]? = some (.cells #[(.slice A1_0 l1_0.length c1_0), (.slice A1_1 l1_1.length c1_1), (.slice A1_2 l1_2.length c1_2)] 25 (0, 0))) ∧ Aside0 (Below w.heap.size w wc))
 case first =>
  have H := HC3.out
  clear HC3
  by_cases c6 : (l0_0.length : Int) = (l1_0.length : Int)
  ·rw [if_pos c6] at H
   have c6b0 : ((l0_0.length : Int) == (l1_0.length : Int)) = true := beq_iff_eq.mpr c6
   have c6b1 : ((l0_0.length : Int) != (l1_0.length : Int)) = false := bne_eq_false_iff_eq.mpr c6
   have c6b2 : (l0_0.length == l1_0.length) = true := by first | simpa using c6 | (simp at c6 ⊢; omega)
   clear c6
   (first | rw [c6b0] | (simp only [i64_w, i32_w]; rw [c6b0]) | skip)
   by_cases c7 : (l0_1.length : Int) = (l1_1.length : Int)
   ·rw [if_pos c7] at H
    have c7b0 : ((l0_1.length : Int) == (l1_1.length : Int)) = true := beq_iff_eq.mpr c7
    have c7b1 : ((l0_1.length : Int) != (l1_1.length : Int)) = false := bne_eq_false_iff_eq.mpr c7
    have c7b2 : (l0_1.length == l1_1.length) = true := by first | simpa using c7 | (simp at c7 ⊢; omega)
    clear c7
    have H' := am H
    clear H
    have hnb8 := NB140_141.out
    have hnc8 := NB141_140.out
    obtain ⟨Z9_0, Z9_1, Z9_2, Y9_0, Y9_1, Y9_2⟩ := bq3 BK140
    obtain ⟨Z10_0, Z10_1, Z10_2, Y10_0, Y10_1, Y10_2⟩ := bq3 BK141
    go_wp2
    repeat (go_quiet (fail); try go_wp2)
    go_meet
    case rel => exact ⟨_, (((l0_2.length : Int) != (l1_2.length : Int))), eb, H', ⟨by first | omega | exact Nat.le_refl _⟩, ⟨bk BK140⟩, ⟨bk BK141⟩, ⟨bl HB⟩⟩
   ·rw [if_neg c7] at H
    have c7b0 : ((l0_1.length : Int) == (l1_1.length : Int)) = false := beq_eq_false_iff_ne.mpr c7
    have c7b1 : ((l0_1.length : Int) != (l1_1.length : Int)) = true := bne_iff_ne.mpr c7
    have c7b2 : (l0_1.length == l1_1.length) = false := by first | simpa using c7 | (simp at c7 ⊢; omega)
    have H' := am H
    clear H
    have hnb11 := NB140_141.out
    have hnc11 := NB141_140.out
    obtain ⟨Z12_0, Z12_1, Z12_2, Y12_0, Y12_1, Y12_2⟩ := bq3 BK140
    obtain ⟨Z13_0, Z13_1, Z13_2, Y13_0, Y13_1, Y13_2⟩ := bq3 BK141
    go_wp2
    repeat (go_quiet (fail); try go_wp2)
    go_meet
    case rel => exact ⟨_, (true), eb, H', ⟨by first | omega | exact Nat.le_refl _⟩, ⟨bk BK140⟩, ⟨bk BK141⟩, ⟨bl HB⟩⟩
  ·rw [if_neg c6] at H
   have c6b0 : ((l0_0.length : Int) == (l1_0.length : Int)) = false := beq_eq_false_iff_ne.mpr c6
   have c6b1 : ((l0_0.length : Int) != (l1_0.length : Int)) = true := bne_iff_ne.mpr c6
   have c6b2 : (l0_0.length == l1_0.length) = false := by first | simpa using c6 | (simp at c6 ⊢; omega)
   (first | rw [c6b0] | (simp only [i64_w, i32_w]; rw [c6b0]) | skip)
   have H' := am H
   clear H
   have hnb14 := NB140_141.out
   have hnc14 := NB141_140.out
   obtain ⟨Z15_0, Z15_1, Z15_2, Y15_0, Y15_1, Y15_2⟩ := bq3 BK140
   obtain ⟨Z16_0, Z16_1, Z16_2, Y16_0, Y16_1, Y16_2⟩ := bq3 BK141
   go_wp2
   repeat (go_quiet (fail); try go_wp2)
   go_meet
   case rel => exact ⟨_, (true), eb, H', ⟨by first | omega | exact Nat.le_refl _⟩, ⟨bk BK140⟩, ⟨bk BK141⟩, ⟨bl HB⟩⟩
 case rest =>
  clear HC3
  (try clear c1); (try clear p2); (try clear c6); (try clear c6b0 c6b1); (try clear c6b2); (try clear c7); (try clear c7b0 c7b1); (try clear c7b2); (try clear c8); (try clear c10); (try clear c11); (try clear c14); (try clear Z10_0 Z10_1 Z10_2); (try clear Z12_0 Z12_1 Z12_2); (try clear Z13_0 Z13_1 Z13_2); (try clear Z15_0 Z15_1 Z15_2); (try clear Z16_0 Z16_1 Z16_2); (try clear Z9_0 Z9_1 Z9_2); (try clear Y10_0 Y10_1 Y10_2); (try clear Y12_0 Y12_1 Y12_2); (try clear Y13_0 Y13_1 Y13_2); (try clear Y15_0 Y15_1 Y15_2); (try clear Y16_0 Y16_1 Y16_2); (try clear Y9_0 Y9_1 Y9_2)
  obtain ⟨kq, x32_2, rfl, HA, HJ2, BK140, BK141, HB⟩ := hcut
  cases kq with
  | zero => exact absurd HA.out (by simp [vellumref17_Same.j0])
  | succ kj2 =>
   have H := HA.out
   clear HA
   simp only [vellumref17_Same.j0] at H
   by_cases c17 : x32_2 = true
   ·subst c17
    have H1 : (some false) = some r := by rw [if_pos rfl] at H; exact H
    clear H
    have H := H1
    clear H1
    obtain rfl := Option.some.inj H
    go_wp2
    repeat (go_quiet (fail); try go_wp2)
    go_ret
    exact ⟨er, bl HB⟩
   ·replace c17 := Bool.eq_false_iff.mpr c17
    subst c17
    have H1 : (vellumref17_Same.l0 kj2 0 l0_0 l0_1 l0_2 l1_0 l1_1 l1_2) = some r := by rw [if_neg (show ¬ (false = true) by decide)] at H; exact H
    clear H
    have H := H1
    clear H1
    have H' := am H
    clear H
    go_wp2
    repeat (go_quiet (fail); try go_wp2)
    go_loopg [5] kj2 (fun kq v5 w' => ∃ (x5_2 : Int), v5 = .int .i64 x5_2 ∧ Aside0 (vellumref17_Same.l0 kq x5_2 l0_0 l0_1 l0_2 l1_0 l1_1 l1_2 = some r) ∧ Aside0 (kq ≤ kj2) ∧ Aside0 (w'.heap[gb140]? = some (.cells #[(.slice A0_0 l0_0.length c0_0), (.slice A0_1 l0_1.length c0_1), (.slice A0_2 l0_2.length c0_2)] 25 (0, 0))) ∧ Aside0 (w'.heap[gb141]? = some (.cells #[(.slice A1_0 l1_0.length c1_0), (.slice A1_1 l1_1.length c1_1), (.slice A1_2 l1_2.length c1_2)] 25 (0, 0))) ∧ Aside0 (Below w.heap.size w w'))
    case atStart => exact ⟨(0), eb, H', ⟨Nat.le_refl _⟩, ⟨bk BK140⟩, ⟨bk BK141⟩, ⟨bl HB⟩⟩
    case round =>
     clear H'
     (try clear c1); (try clear p2); (try clear c6); (try clear c6b0 c6b1); (try clear c6b2); (try clear c7); (try clear c7b0 c7b1); (try clear c7b2); (try clear c8); (try clear c10); (try clear c11); (try clear c14); (try clear c17); (try clear Z10_0 Z10_1 Z10_2); (try clear Z12_0 Z12_1 Z12_2); (try clear Z13_0 Z13_1 Z13_2); (try clear Z15_0 Z15_1 Z15_2); (try clear Z16_0 Z16_1 Z16_2); (try clear Z9_0 Z9_1 Z9_2); (try clear Y10_0 Y10_1 Y10_2); (try clear Y12_0 Y12_1 Y12_2); (try clear Y13_0 Y13_1 Y13_2); (try clear Y15_0 Y15_1 Y15_2); (try clear Y16_0 Y16_1 Y16_2); (try clear Y9_0 Y9_1 Y9_2); (try clear p2)
     obtain ⟨x5_2, rfl, HA, HK2, BK140, BK141, HB⟩ := hrel
     cases gk with
     | zero => exact absurd HA.out (by simp [vellumref17_Same.l0])
     | succ k2 =>
      have H := HA.out
      clear HA
      simp only [vellumref17_Same.l0] at H
      by_cases c18 : x5_2 < (l0_0.length : Int)
      ·rw [if_pos c18] at H
       have c18b0 : decide (x5_2 < (l0_0.length : Int)) = true := decide_eq_true c18
       clear c18
       by_cases c19 : 0 ≤ x5_2
       ·rw [if_pos c19] at H
        have c19b0 : decide (0 ≤ x5_2) = true := decide_eq_true c19
        clear c19
        by_cases c20 : x5_2 < (l1_0.length : Int)
        ·rw [if_pos c20] at H
         have c20b0 : decide (x5_2 < (l1_0.length : Int)) = true := decide_eq_true c20
         clear c20
         by_cases c21 : (!(((rd_T37 l0_0 x5_2).f0) == ((rd_T37 l1_0 x5_2).f0)) || (!(((rd_T37 l0_0 x5_2).f1) == ((rd_T37 l1_0 x5_2).f1)) || (!((((rd_T37 l0_0 x5_2).f2).toList) == (((rd_T37 l1_0 x5_2).f2).toList))))) = true
         ·rw [if_pos c21] at H
          have c21b0 : (!(((rd_T37 l0_0 x5_2).f0) == ((rd_T37 l1_0 x5_2).f0)) || (!(((rd_T37 l0_0 x5_2).f1) == ((rd_T37 l1_0 x5_2).f1)) || (!((((rd_T37 l0_0 x5_2).f2).toList) == (((rd_T37 l1_0 x5_2).f2).toList))))) = true := c21
          clear c21
          obtain rfl := Option.some.inj H
          have hnb22 := NB140_141.out
          have hnc22 := NB141_140.out
          obtain ⟨Z23_0, Z23_1, Z23_2, Y23_0, Y23_1, Y23_2⟩ := bq3 BK140
          have p142 : 0 ≤ (x5_2 : Int) := oda
          have q142 : x5_2 < (l0_0.length : Int) := oda
          obtain ⟨ad142, e142, hx142_0, hx142_1, hx142_2⟩ := at_T37 HR0_0.out x5_2 p142 q142
          cases e142
          replace hx142_0 := hc HB hx142_0
          replace hx142_1 := hc HB hx142_1
          replace hx142_2 := hc HB hx142_2
          replace p142 := eq_true p142
          replace q142 := eq_true q142
          obtain ⟨Z24_0, Z24_1, Z24_2, Y24_0, Y24_1, Y24_2⟩ := bq3 BK141
          have p143 : 0 ≤ (x5_2 : Int) := oda
          have q143 : x5_2 < (l1_0.length : Int) := oda
          obtain ⟨ad143, e143, hx143_0, hx143_1, hx143_2⟩ := at_T37 HR1_0.out x5_2 p143 q143
          cases e143
          replace hx143_0 := hc HB hx143_0
          replace hx143_1 := hc HB hx143_1
          replace hx143_2 := hc HB hx143_2
          replace p143 := eq_true p143
          replace q143 := eq_true q143
          go_wp2
          repeat (go_quiet (fail); try go_wp2)
          go_ret
          exact ⟨er, bl HB⟩
         ·rw [if_neg c21] at H
          have c21b0 : (!(((rd_T37 l0_0 x5_2).f0) == ((rd_T37 l1_0 x5_2).f0)) || (!(((rd_T37 l0_0 x5_2).f1) == ((rd_T37 l1_0 x5_2).f1)) || (!((((rd_T37 l0_0 x5_2).f2).toList) == (((rd_T37 l1_0 x5_2).f2).toList))))) = false := by simpa using c21
          clear c21
          have H' := am H
          clear H
          have hnb25 := NB140_141.out
          have hnc25 := NB141_140.out
          obtain ⟨Z26_0, Z26_1, Z26_2, Y26_0, Y26_1, Y26_2⟩ := bq3 BK140
          have p142 : 0 ≤ (x5_2 : Int) := oda
          have q142 : x5_2 < (l0_0.length : Int) := oda
          obtain ⟨ad142, e142, hx142_0, hx142_1, hx142_2⟩ := at_T37 HR0_0.out x5_2 p142 q142
          cases e142
          replace hx142_0 := hc HB hx142_0
          replace hx142_1 := hc HB hx142_1
          replace hx142_2 := hc HB hx142_2
          replace p142 := eq_true p142
          replace q142 := eq_true q142
          obtain ⟨Z27_0, Z27_1, Z27_2, Y27_0, Y27_1, Y27_2⟩ := bq3 BK141
          have p143 : 0 ≤ (x5_2 : Int) := oda
          have q143 : x5_2 < (l1_0.length : Int) := oda
          obtain ⟨ad143, e143, hx143_0, hx143_1, hx143_2⟩ := at_T37 HR1_0.out x5_2 p143 q143
          cases e143
          replace hx143_0 := hc HB hx143_0
          replace hx143_1 := hc HB hx143_1
          replace hx143_2 := hc HB hx143_2
          replace p143 := eq_true p143
          replace q143 := eq_true q143
          go_wp2
          repeat (go_quiet (fail); try go_wp2)
          go_roundg k2
          case measure => have := HJ2.out; have := HK2.out; omega
          case rel => exact ⟨(wrap64 (x5_2 + 1)), eb, H', ⟨by have := HJ2.out; have := HK2.out; omega⟩, ⟨bk BK140⟩, ⟨bk BK141⟩, ⟨bl HB⟩⟩
        ·rw [if_neg c20] at H
         exact absurd H (by simp)
       ·rw [if_neg c19] at H
        exact absurd H (by simp)
      ·rw [if_neg c18] at H
       have c18b0 : decide (x5_2 < (l0_0.length : Int)) = false := decide_eq_false c18
       clear c18
       have H' := am H
       clear H
       have hnb28 := NB140_141.out
       have hnc28 := NB141_140.out
       obtain ⟨Z29_0, Z29_1, Z29_2, Y29_0, Y29_1, Y29_2⟩ := bq3 BK140
       go_wp2
       repeat (go_quiet (fail); try go_wp2)
       go_loopg [6] k2 (fun kq v6 w' => ∃ (x6_3 : Int), v6 = .int .i64 x6_3 ∧ Aside0 (vellumref17_Same.l1 kq x6_3 l0_0 l0_1 l0_2 l1_0 l1_1 l1_2 = some r) ∧ Aside0 (kq ≤ k2) ∧ Aside0 (w'.heap[gb140]? = some (.cells #[(.slice A0_0 l0_0.length c0_0), (.slice A0_1 l0_1.length c0_1), (.slice A0_2 l0_2.length c0_2)] 25 (0, 0))) ∧ Aside0 (w'.heap[gb141]? = some (.cells #[(.slice A1_0 l1_0.length c1_0), (.slice A1_1 l1_1.length c1_1), (.slice A1_2 l1_2.length c1_2)] 25 (0, 0))) ∧ Aside0 (Below w.heap.size w w'))
       case atStart => exact ⟨(0), eb, H', ⟨Nat.le_refl _⟩, ⟨bk BK140⟩, ⟨bk BK141⟩, ⟨bl HB⟩⟩
       case round =>
        clear H'
        (try clear c1); (try clear p1); (try clear q1); (try clear hx1); (try clear c2); (try clear p2); (try clear c6); (try clear c6b0 c6b1); (try clear c6b2); (try clear p6); (try clear c7); (try clear c7b0 c7b1); (try clear c7b2); (try clear c8); (try clear c10); (try clear c11); (try clear c14); (try clear p14); (try clear q14); (try clear hx14); (try clear c17); (try clear c18); (try clear c18b0); (try clear c19); (try clear c19b0); (try clear c20); (try clear c20b0); (try clear c21); (try clear c21b0); (try clear c22); (try clear c25); (try clear c28); (try clear Z10_0 Z10_1 Z10_2); (try clear Z12_0 Z12_1 Z12_2); (try clear Z13_0 Z13_1 Z13_2); (try clear Z15_0 Z15_1 Z15_2); (try clear Z16_0 Z16_1 Z16_2); (try clear Z23_0 Z23_1 Z23_2); (try clear Z24_0 Z24_1 Z24_2); (try clear Z26_0 Z26_1 Z26_2); (try clear Z27_0 Z27_1 Z27_2); (try clear Z29_0 Z29_1 Z29_2); (try clear Z9_0 Z9_1 Z9_2); (try clear Y10_0 Y10_1 Y10_2); (try clear Y12_0 Y12_1 Y12_2); (try clear Y13_0 Y13_1 Y13_2); (try clear Y15_0 Y15_1 Y15_2); (try clear Y16_0 Y16_1 Y16_2); (try clear Y23_0 Y23_1 Y23_2); (try clear Y24_0 Y24_1 Y24_2); (try clear Y26_0 Y26_1 Y26_2); (try clear Y27_0 Y27_1 Y27_2); (try clear Y29_0 Y29_1 Y29_2); (try clear Y9_0 Y9_1 Y9_2); (try clear hx142_0); (try clear hx142_1); (try clear hx142_2); (try clear hx143_0); (try clear hx143_1); (try clear hx143_2); (try clear p142); (try clear p143); (try clear p2); (try clear q142); (try clear q143)
        obtain ⟨x6_3, rfl, HA, HK3, BK140, BK141, HB⟩ := hrel
        cases gk with
        | zero => exact absurd HA.out (by simp [vellumref17_Same.l1])
        | succ k3 =>
         have H := HA.out
         clear HA
         simp only [vellumref17_Same.l1] at H
         by_cases c30 : x6_3 < (l0_1.length : Int)
         ·rw [if_pos c30] at H
          have c30b0 : decide (x6_3 < (l0_1.length : Int)) = true := decide_eq_true c30
          clear c30
          by_cases c31 : 0 ≤ x6_3
          ·rw [if_pos c31] at H
           have c31b0 : decide (0 ≤ x6_3) = true := decide_eq_true c31
           clear c31
           by_cases c32 : x6_3 < (l1_1.length : Int)
           ·rw [if_pos c32] at H
            have c32b0 : decide (x6_3 < (l1_1.length : Int)) = true := decide_eq_true c32
            clear c32
            by_cases c33 : (!(((rd_T46 l0_1 x6_3).f0) == ((rd_T46 l1_1 x6_3).f0)) || (!(((rd_T46 l0_1 x6_3).f1) == ((rd_T46 l1_1 x6_3).f1)) || ((!((((rd_T46 l0_1 x6_3).f2.f0).toList) == (((rd_T46 l1_1 x6_3).f2.f0).toList)) || (!((((rd_T46 l0_1 x6_3).f2.f1).toList) == (((rd_T46 l1_1 x6_3).f2.f1).toList)) || (!(((rd_T46 l0_1 x6_3).f2.f2) == ((rd_T46 l1_1 x6_3).f2.f2)))))))) = true
            ·rw [if_pos c33] at H
             have c33b0 : (!(((rd_T46 l0_1 x6_3).f0) == ((rd_T46 l1_1 x6_3).f0)) || (!(((rd_T46 l0_1 x6_3).f1) == ((rd_T46 l1_1 x6_3).f1)) || ((!((((rd_T46 l0_1 x6_3).f2.f0).toList) == (((rd_T46 l1_1 x6_3).f2.f0).toList)) || (!((((rd_T46 l0_1 x6_3).f2.f1).toList) == (((rd_T46 l1_1 x6_3).f2.f1).toList)) || (!(((rd_T46 l0_1 x6_3).f2.f2) == ((rd_T46 l1_1 x6_3).f2.f2)))))))) = true := c33
             clear c33
             obtain rfl := Option.some.inj H
             have hnb34 := NB140_141.out
             have hnc34 := NB141_140.out
             obtain ⟨Z35_0, Z35_1, Z35_2, Y35_0, Y35_1, Y35_2⟩ := bq3 BK140
             have p144 : 0 ≤ (x6_3 : Int) := oda
             have q144 : x6_3 < (l0_1.length : Int) := oda
             obtain ⟨ad144, e144, hx144_0, hx144_1, hx144_2, hx144_3, hx144_4⟩ := at_T46 HR0_1.out x6_3 p144 q144
             cases e144
             replace hx144_0 := hc HB hx144_0
             replace hx144_1 := hc HB hx144_1
             replace hx144_2 := hc HB hx144_2
             replace hx144_3 := hc HB hx144_3
             replace hx144_4 := hc HB hx144_4
             replace p144 := eq_true p144
             replace q144 := eq_true q144
             obtain ⟨Z36_0, Z36_1, Z36_2, Y36_0, Y36_1, Y36_2⟩ := bq3 BK141
             have p145 : 0 ≤ (x6_3 : Int) := oda
             have q145 : x6_3 < (l1_1.length : Int) := oda
             obtain ⟨ad145, e145, hx145_0, hx145_1, hx145_2, hx145_3, hx145_4⟩ := at_T46 HR1_1.out x6_3 p145 q145
             cases e145
             replace hx145_0 := hc HB hx145_0
             replace hx145_1 := hc HB hx145_1
             replace hx145_2 := hc HB hx145_2
             replace hx145_3 := hc HB hx145_3
             replace hx145_4 := hc HB hx145_4
             replace p145 := eq_true p145
             replace q145 := eq_true q145
             go_wp2
             repeat (go_quiet (fail); try go_wp2)
             go_ret
             exact ⟨er, bl HB⟩
            ·rw [if_neg c33] at H
             have c33b0 : (!(((rd_T46 l0_1 x6_3).f0) == ((rd_T46 l1_1 x6_3).f0)) || (!(((rd_T46 l0_1 x6_3).f1) == ((rd_T46 l1_1 x6_3).f1)) || ((!((((rd_T46 l0_1 x6_3).f2.f0).toList) == (((rd_T46 l1_1 x6_3).f2.f0).toList)) || (!((((rd_T46 l0_1 x6_3).f2.f1).toList) == (((rd_T46 l1_1 x6_3).f2.f1).toList)) || (!(((rd_T46 l0_1 x6_3).f2.f2) == ((rd_T46 l1_1 x6_3).f2.f2)))))))) = false := by simpa using c33
             clear c33
             have H' := am H
             clear H
             have hnb37 := NB140_141.out
             have hnc37 := NB141_140.out
             obtain ⟨Z38_0, Z38_1, Z38_2, Y38_0, Y38_1, Y38_2⟩ := bq3 BK140
             have p144 : 0 ≤ (x6_3 : Int) := oda
             have q144 : x6_3 < (l0_1.length : Int) := oda
             obtain ⟨ad144, e144, hx144_0, hx144_1, hx144_2, hx144_3, hx144_4⟩ := at_T46 HR0_1.out x6_3 p144 q144
             cases e144
             replace hx144_0 := hc HB hx144_0
             replace hx144_1 := hc HB hx144_1
             replace hx144_2 := hc HB hx144_2
             replace hx144_3 := hc HB hx144_3
             replace hx144_4 := hc HB hx144_4
             replace p144 := eq_true p144
             replace q144 := eq_true q144
             obtain ⟨Z39_0, Z39_1, Z39_2, Y39_0, Y39_1, Y39_2⟩ := bq3 BK141
             have p145 : 0 ≤ (x6_3 : Int) := oda
             have q145 : x6_3 < (l1_1.length : Int) := oda
             obtain ⟨ad145, e145, hx145_0, hx145_1, hx145_2, hx145_3, hx145_4⟩ := at_T46 HR1_1.out x6_3 p145 q145
             cases e145
             replace hx145_0 := hc HB hx145_0
             replace hx145_1 := hc HB hx145_1
             replace hx145_2 := hc HB hx145_2
             replace hx145_3 := hc HB hx145_3
             replace hx145_4 := hc HB hx145_4
             replace p145 := eq_true p145
             replace q145 := eq_true q145
             go_wp2
             repeat (go_quiet (fail); try go_wp2)
             go_roundg k3
             case measure => have := HJ2.out; have := HK2.out; have := HK3.out; omega
             case rel => exact ⟨(wrap64 (x6_3 + 1)), eb, H', ⟨by have := HJ2.out; have := HK2.out; have := HK3.out; omega⟩, ⟨bk BK140⟩, ⟨bk BK141⟩, ⟨bl HB⟩⟩
           ·rw [if_neg c32] at H
            exact absurd H (by simp)
          ·rw [if_neg c31] at H
           exact absurd H (by simp)
         ·rw [if_neg c30] at H
          have c30b0 : decide (x6_3 < (l0_1.length : Int)) = false := decide_eq_false c30
          clear c30
          have H' := am H
          clear H
          have hnb40 := NB140_141.out
          have hnc40 := NB141_140.out
          obtain ⟨Z41_0, Z41_1, Z41_2, Y41_0, Y41_1, Y41_2⟩ := bq3 BK140
          go_wp2
          repeat (go_quiet (fail); try go_wp2)
          go_loopg [7] k3 (fun kq v7 w' => ∃ (x7_4 : Int), v7 = .int .i64 x7_4 ∧ Aside0 (vellumref17_Same.l2 kq x7_4 l0_0 l0_1 l0_2 l1_0 l1_1 l1_2 = some r) ∧ Aside0 (kq ≤ k3) ∧ Aside0 (w'.heap[gb140]? = some (.cells #[(.slice A0_0 l0_0.length c0_0), (.slice A0_1 l0_1.length c0_1), (.slice A0_2 l0_2.length c0_2)] 25 (0, 0))) ∧ Aside0 (w'.heap[gb141]? = some (.cells #[(.slice A1_0 l1_0.length c1_0), (.slice A1_1 l1_1.length c1_1), (.slice A1_2 l1_2.length c1_2)] 25 (0, 0))) ∧ Aside0 (Below w.heap.size w w'))
          case atStart => exact ⟨(0), eb, H', ⟨Nat.le_refl _⟩, ⟨bk BK140⟩, ⟨bk BK141⟩, ⟨bl HB⟩⟩
          case round =>
           clear H'
           (try clear c1); (try clear p1); (try clear q1); (try clear hx1); (try clear c2); (try clear p2); (try clear c3); (try clear c4); (try clear c6); (try clear c6b0 c6b1); (try clear c6b2); (try clear p6); (try clear c7); (try clear c7b0 c7b1); (try clear c7b2); (try clear c8); (try clear c10); (try clear c11); (try clear c14); (try clear p14); (try clear q14); (try clear hx14); (try clear c17); (try clear c18); (try clear c18b0); (try clear c19); (try clear c19b0); (try clear c20); (try clear c20b0); (try clear c21); (try clear c21b0); (try clear c22); (try clear c25); (try clear c28); (try clear c30); (try clear c30b0); (try clear c31); (try clear c31b0); (try clear c32); (try clear c32b0); (try clear c33); (try clear c33b0); (try clear c34); (try clear c37); (try clear c40); (try clear Z10_0 Z10_1 Z10_2); (try clear Z12_0 Z12_1 Z12_2); (try clear Z13_0 Z13_1 Z13_2); (try clear Z15_0 Z15_1 Z15_2); (try clear Z16_0 Z16_1 Z16_2); (try clear Z23_0 Z23_1 Z23_2); (try clear Z24_0 Z24_1 Z24_2); (try clear Z26_0 Z26_1 Z26_2); (try clear Z27_0 Z27_1 Z27_2); (try clear Z29_0 Z29_1 Z29_2); (try clear Z35_0 Z35_1 Z35_2); (try clear Z36_0 Z36_1 Z36_2); (try clear Z38_0 Z38_1 Z38_2); (try clear Z39_0 Z39_1 Z39_2); (try clear Z41_0 Z41_1 Z41_2); (try clear Z9_0 Z9_1 Z9_2); (try clear Y10_0 Y10_1 Y10_2); (try clear Y12_0 Y12_1 Y12_2); (try clear Y13_0 Y13_1 Y13_2); (try clear Y15_0 Y15_1 Y15_2); (try clear Y16_0 Y16_1 Y16_2); (try clear Y23_0 Y23_1 Y23_2); (try clear Y24_0 Y24_1 Y24_2); (try clear Y26_0 Y26_1 Y26_2); (try clear Y27_0 Y27_1 Y27_2); (try clear Y29_0 Y29_1 Y29_2); (try clear Y35_0 Y35_1 Y35_2); (try clear Y36_0 Y36_1 Y36_2); (try clear Y38_0 Y38_1 Y38_2); (try clear Y39_0 Y39_1 Y39_2); (try clear Y41_0 Y41_1 Y41_2); (try clear Y9_0 Y9_1 Y9_2); (try clear hx142_0); (try clear hx142_1); (try clear hx142_2); (try clear hx143_0); (try clear hx143_1); (try clear hx143_2); (try clear hx144_0); (try clear hx144_1); (try clear hx144_2); (try clear hx144_3); (try clear hx144_4); (try clear hx145_0); (try clear hx145_1); (try clear hx145_2); (try clear hx145_3); (try clear hx145_4); (try clear p1); (try clear p14); (try clear p142); (try clear p143); (try clear p144); (try clear p145); (try clear p2); (try clear p6); (try clear q1); (try clear q14); (try clear q142); (try clear q143); (try clear q144); (try clear q145)
           obtain ⟨x7_4, rfl, HA, HK4, BK140, BK141, HB⟩ := hrel
           cases gk with
           | zero => exact absurd HA.out (by simp [vellumref17_Same.l2])
           | succ k4 =>
            have H := HA.out
            clear HA
            simp only [vellumref17_Same.l2] at H
            by_cases c42 : x7_4 < (l0_2.length : Int)
            ·rw [if_pos c42] at H
             have c42b0 : decide (x7_4 < (l0_2.length : Int)) = true := decide_eq_true c42
             clear c42
             by_cases c43 : 0 ≤ x7_4
             ·rw [if_pos c43] at H
              have c43b0 : decide (0 ≤ x7_4) = true := decide_eq_true c43
              clear c43
              by_cases c44 : x7_4 < (l1_2.length : Int)
              ·rw [if_pos c44] at H
               have c44b0 : decide (x7_4 < (l1_2.length : Int)) = true := decide_eq_true c44
               clear c44
               by_cases c45 : (!(((rd_T37 l0_2 x7_4).f0) == ((rd_T37 l1_2 x7_4).f0)) || (!(((rd_T37 l0_2 x7_4).f1) == ((rd_T37 l1_2 x7_4).f1)) || (!((((rd_T37 l0_2 x7_4).f2).toList) == (((rd_T37 l1_2 x7_4).f2).toList))))) = true
               ·rw [if_pos c45] at H
                have c45b0 : (!(((rd_T37 l0_2 x7_4).f0) == ((rd_T37 l1_2 x7_4).f0)) || (!(((rd_T37 l0_2 x7_4).f1) == ((rd_T37 l1_2 x7_4).f1)) || (!((((rd_T37 l0_2 x7_4).f2).toList) == (((rd_T37 l1_2 x7_4).f2).toList))))) = true := c45
                clear c45
                obtain rfl := Option.some.inj H
                have hnb46 := NB140_141.out
                have hnc46 := NB141_140.out
                obtain ⟨Z47_0, Z47_1, Z47_2, Y47_0, Y47_1, Y47_2⟩ := bq3 BK140
                have p146 : 0 ≤ (x7_4 : Int) := oda
                have q146 : x7_4 < (l0_2.length : Int) := oda
                obtain ⟨ad146, e146, hx146_0, hx146_1, hx146_2⟩ := at_T37 HR0_2.out x7_4 p146 q146
                cases e146
                replace hx146_0 := hc HB hx146_0
                replace hx146_1 := hc HB hx146_1
                replace hx146_2 := hc HB hx146_2
                replace p146 := eq_true p146
                replace q146 := eq_true q146
                obtain ⟨Z48_0, Z48_1, Z48_2, Y48_0, Y48_1, Y48_2⟩ := bq3 BK141
                have p147 : 0 ≤ (x7_4 : Int) := oda
                have q147 : x7_4 < (l1_2.length : Int) := oda
                obtain ⟨ad147, e147, hx147_0, hx147_1, hx147_2⟩ := at_T37 HR1_2.out x7_4 p147 q147
                cases e147
                replace hx147_0 := hc HB hx147_0
                replace hx147_1 := hc HB hx147_1
                replace hx147_2 := hc HB hx147_2
                replace p147 := eq_true p147
                replace q147 := eq_true q147
                go_wp2
                repeat (go_quiet (fail); try go_wp2)
                go_ret
                exact ⟨er, bl HB⟩
               ·rw [if_neg c45] at H
                have c45b0 : (!(((rd_T37 l0_2 x7_4).f0) == ((rd_T37 l1_2 x7_4).f0)) || (!(((rd_T37 l0_2 x7_4).f1) == ((rd_T37 l1_2 x7_4).f1)) || (!((((rd_T37 l0_2 x7_4).f2).toList) == (((rd_T37 l1_2 x7_4).f2).toList))))) = false := by simpa using c45
                clear c45
                have H' := am H
                clear H
                have hnb49 := NB140_141.out
                have hnc49 := NB141_140.out
                obtain ⟨Z50_0, Z50_1, Z50_2, Y50_0, Y50_1, Y50_2⟩ := bq3 BK140
                have p146 : 0 ≤ (x7_4 : Int) := oda
                have q146 : x7_4 < (l0_2.length : Int) := oda
                obtain ⟨ad146, e146, hx146_0, hx146_1, hx146_2⟩ := at_T37 HR0_2.out x7_4 p146 q146
                cases e146
                replace hx146_0 := hc HB hx146_0
                replace hx146_1 := hc HB hx146_1
                replace hx146_2 := hc HB hx146_2
                replace p146 := eq_true p146
                replace q146 := eq_true q146
                obtain ⟨Z51_0, Z51_1, Z51_2, Y51_0, Y51_1, Y51_2⟩ := bq3 BK141
                have p147 : 0 ≤ (x7_4 : Int) := oda
                have q147 : x7_4 < (l1_2.length : Int) := oda
                obtain ⟨ad147, e147, hx147_0, hx147_1, hx147_2⟩ := at_T37 HR1_2.out x7_4 p147 q147
                cases e147
                replace hx147_0 := hc HB hx147_0
                replace hx147_1 := hc HB hx147_1
                replace hx147_2 := hc HB hx147_2
                replace p147 := eq_true p147
                replace q147 := eq_true q147
                go_wp2
                repeat (go_quiet (fail); try go_wp2)
                go_roundg k4
                case measure => have := HJ2.out; have := HK2.out; have := HK3.out; have := HK4.out; omega
                case rel => exact ⟨(wrap64 (x7_4 + 1)), eb, H', ⟨by have := HJ2.out; have := HK2.out; have := HK3.out; have := HK4.out; omega⟩, ⟨bk BK140⟩, ⟨bk BK141⟩, ⟨bl HB⟩⟩
              ·rw [if_neg c44] at H
               exact absurd H (by simp)
             ·rw [if_neg c43] at H
              exact absurd H (by simp)
            ·rw [if_neg c42] at H
             have c42b0 : decide (x7_4 < (l0_2.length : Int)) = false := decide_eq_false c42
             clear c42
             obtain rfl := Option.some.inj H
             have hnb52 := NB140_141.out
             have hnc52 := NB141_140.out
             obtain ⟨Z53_0, Z53_1, Z53_2, Y53_0, Y53_1, Y53_2⟩ := bq3 BK140
             go_wp2
             repeat (go_quiet (fail); try go_wp2)
             go_ret
             exact ⟨er, bl HB⟩
end Go.Proofs.YtldlenjfpjihdaaGreat.PS
end
section
namespace Go.Proofs.YtldlenjfpjihdaaGreat.PS
open Go.RowKit Go.Proofs.YtldlenjfpjihdaaGreatW.PrintWords Go.Proofs.YtldlenjfpjihdaaGreatW.PrintLast Go.Proofs.YtldlenjfpjihdaaGreatW.PrintMore
attribute [local go_sem] max2_int min2_int max_two min_two max_three min_three max_four min_four
set_option linter.unusedVariables false
set_option linter.unusedSimpArgs false
def vellumref02_Has.f (a0_0 : ByteArray) (a0_1 : ByteArray) (a0_2 : Bool) (a1 : ByteArray) : Option (Bool) := if ((Op.bytesLess a1.toList a0_0.toList) = true) then (some false) else (if a0_2 = true then (some true) else (some (Op.bytesLess a1.toList a0_1.toList)))
set_option maxHeartbeats 8000000 in
set_option maxRecDepth 100000 in
theorem vellumref02_Has.calls (a0_0 : ByteArray) (a0_1 : ByteArray) (a0_2 : Bool) (a1 : ByteArray) (r : Bool) (w : World) (h : vellumref02_Has.f a0_0 a0_1 a0_2 a1 = some r) :
  Calls Tryz.prog 81 #[.agg #[.string a0_0, .string a0_1, .bool a0_2], .string a1] w fun e w' => e = .returned (.bool r) ∧ Below w.heap.size w w' := by
 have hu44 := Tryz.underlying44
 have HB := am (Below.refl w.heap.size w)
 have H : (if ((Op.bytesLess a1.toList a0_0.toList) = true) then (some false) else (if a0_2 = true then (some true) else (some (Op.bytesLess a1.toList a0_1.toList)))) = some r := h
 clear h
 by_cases c3 : ((Op.bytesLess a1.toList a0_0.toList) = true)
 ·rw [if_pos c3] at H
  have c3b0 : (Op.bytesLess a1.toList a0_0.toList) = true := c3
  clear c3
  obtain rfl := Option.some.inj H
  go_enter Tryz.func81, Tryz.ntmps81
  go_wp2_with (first | ((with_reducible refine gate_dst (N := 2) rfl ?_); refine box_event rfl (N := 2) rfl (cs := #[.string a0_0, .string a0_1, .bool a0_2]) (t := 44) gs ?_; intro gb148 hg w4 hbox hb; have BK148 := am (hbox); have GW148 := gw hg HB; have GE148 := gw hg HB; replace HB := sb HB hb; clear hb hbox hg; obtain ⟨Z5_0, Z5_1, Z5_2, Y5_0, Y5_1, Y5_2⟩ := bq3 BK148))
  go_ret
  exact ⟨er, bl HB⟩
 ·rw [if_neg c3] at H
  have c3b0 : (Op.bytesLess a1.toList a0_0.toList) = false := by simpa using c3
  clear c3
  by_cases c6 : a0_2 = true
  ·subst c6
   have H1 : (some true) = some r := by rw [if_pos rfl] at H; exact H
   clear H
   have H := H1
   clear H1
   obtain rfl := Option.some.inj H
   go_enter Tryz.func81, Tryz.ntmps81
   go_wp2_with (first | ((with_reducible refine gate_dst (N := 2) rfl ?_); refine box_event rfl (N := 2) rfl (cs := #[.string a0_0, .string a0_1, .bool true]) (t := 44) gs ?_; intro gb148 hg w7 hbox hb; have BK148 := am (hbox); have GW148 := gw hg HB; have GE148 := gw hg HB; replace HB := sb HB hb; clear hb hbox hg; obtain ⟨Z8_0, Z8_1, Z8_2, Y8_0, Y8_1, Y8_2⟩ := bq3 BK148))
   go_ret
   exact ⟨er, bl HB⟩
  ·replace c6 := Bool.eq_false_iff.mpr c6
   subst c6
   have H1 : (some (Op.bytesLess a1.toList a0_1.toList)) = some r := by rw [if_neg (show ¬ (false = true) by decide)] at H; exact H
   clear H
   have H := H1
   clear H1
   obtain rfl := Option.some.inj H
   go_enter Tryz.func81, Tryz.ntmps81
   go_wp2_with (first | ((with_reducible refine gate_dst (N := 2) rfl ?_); refine box_event rfl (N := 2) rfl (cs := #[.string a0_0, .string a0_1, .bool false]) (t := 44) gs ?_; intro gb148 hg w9 hbox hb; have BK148 := am (hbox); have GW148 := gw hg HB; have GE148 := gw hg HB; replace HB := sb HB hb; clear hb hbox hg; obtain ⟨Z10_0, Z10_1, Z10_2, Y10_0, Y10_1, Y10_2⟩ := bq3 BK148))
   go_ret
   exact ⟨er, bl HB⟩
def vellumref17_spanned.l0 : Nat → List (S46) → Int → Int → Int → ByteArray → Option (Bool)
 | 0, _, _, _, _, _ => none
 | k + 1, x0, x5, x150000, x150001, x150002 => if x5 < (x0.length : Int) then (if 0 ≤ x5 then (if ((rd_T46 x0 x5).f0) = x150000 then (if ((rd_T46 x0 x5).f1) = x150001 then ((vellumref02_Has.f ((rd_T46 x0 x5).f2.f0) ((rd_T46 x0 x5).f2.f1) ((rd_T46 x0 x5).f2.f2) x150002).bind fun t153 => (if t153 = true then (some true) else (vellumref17_spanned.l0 k x0 (wrap64 (x5 + 1)) x150000 x150001 x150002))) else (vellumref17_spanned.l0 k x0 (wrap64 (x5 + 1)) x150000 x150001 x150002)) else (vellumref17_spanned.l0 k x0 (wrap64 (x5 + 1)) x150000 x150001 x150002)) else (none)) else (some false)
def vellumref17_spanned.f (k : Nat) (l0 : List (S46)) (a1_0 : Int) (a1_1 : Int) (a1_2 : ByteArray) : Option (Bool) := vellumref17_spanned.l0 k l0 0 a1_0 a1_1 a1_2
def vellumref17_spanned.T4 : Bool × List (List Nat × List Nat) := (true, [([], []), ([], []), ([0, 1], [0, 1]), ([2], [2]), ([3], [3]), ([], []), ([5], [5]), ([4, 6], [4, 6]), ([7], [7]), ([8], [8]), ([8], [8]), ([9, 10, 8], [8, 9, 10]), ([11, 8], [8, 11]), ([12, 8], [8, 12]), ([8], [8]), ([14, 8], [8, 14]), ([13, 15, 8], [8, 13, 15]), ([8, 16], [8, 16]), ([17, 8], [17]), ([18], [18]), ([18], [18]), ([19, 20, 18], [18, 19, 20]), ([21, 18], [18, 21]), ([22, 18], [18, 22]), ([18], [18]), ([24, 18], [18, 24]), ([23, 25, 18, 18], [18, 23, 25]), ([18, 26], [18, 26])])
def vellumref17_spanned.B4 : List Nat := [0, 0, 3, 7, 15, 0, 32, 127, 255, 511, 511, 2047, 4095, 8191, 511, 16895, 65535, 131071, 262143, 524287, 524287, 2097151, 4194303, 8388607, 524287, 17301503, 67108863, 134217727]
theorem vellumref17_spanned.tab4 : rtab .any (opsOf Tryz.f58 4) = vellumref17_spanned.T4 := by kernel_rfl
theorem vellumref17_spanned.bits4 : waitsOk vellumref17_spanned.T4.2 vellumref17_spanned.B4 = true := by kernel_rfl
set_option maxHeartbeats 8000000 in
set_option maxRecDepth 100000 in
theorem vellumref17_spanned.calls (k : Nat) (A0 : Option Addr) (c0 : Nat) (l0 : List (S46)) (a1_0 : Int) (a1_1 : Int) (a1_2 : ByteArray) (r : Bool) (w : World) (hr0 : Kd.C k46 w A0 l0.length l0) (hc0 : l0.length ≤ c0) (h : vellumref17_spanned.f k l0 a1_0 a1_1 a1_2 = some r) :
  Calls Tryz.prog 58 #[.slice A0 l0.length c0, .agg #[.int .i64 a1_0, .int .i64 a1_1, .string a1_2]] w fun e w' => e = .returned (.bool r) ∧ Below w.heap.size w w' := by
 have hu37 := Tryz.underlying37
 have hu44 := Tryz.underlying44
 have HR0 := am hr0
 have HC0 := am hc0
 clear hr0 hc0
 have HB := am (Below.refl w.heap.size w)
 have H : (vellumref17_spanned.l0 k l0 0 a1_0 a1_1 a1_2) = some r := h
 clear h
 have H' := am H
 clear H
 go_enter Tryz.func58, Tryz.ntmps58
 go_wp2_with (first | ((with_reducible refine gate_dst (N := 3) rfl ?_); refine box_event rfl (N := 3) rfl (cs := #[.int .i64 a1_0, .int .i64 a1_1, .string a1_2]) (t := 37) gs ?_; intro gb149 hg w3 hbox hb; have BK149 := am (hbox); have GW149 := gw hg HB; have GE149 := gw hg HB; replace HB := sb HB hb; clear hb hbox hg))
 go_loopg [5] k (fun kq v5 w' => ∃ (x5_1 : Int), v5 = .int .i64 x5_1 ∧ Aside0 (vellumref17_spanned.l0 kq l0 x5_1 a1_0 a1_1 a1_2 = some r) ∧ Aside0 (kq ≤ k) ∧ Aside0 (w'.heap[gb149]? = some (.cells #[.int .i64 a1_0, .int .i64 a1_1, .string a1_2] 37 (0, 0))) ∧ Aside0 (Below w.heap.size w w'))
 case atStart => exact ⟨(0), eb, H', ⟨Nat.le_refl _⟩, ⟨bk BK149⟩, ⟨bl HB⟩⟩
 case round =>
  clear H'
  try clear p2
  obtain ⟨x5_1, rfl, HA, HK1, BK149, HB⟩ := hrel
  cases gk with
  | zero => exact absurd HA.out (by simp [vellumref17_spanned.l0])
  | succ k1 =>
   have H := HA.out
   clear HA
   simp only [vellumref17_spanned.l0] at H
   by_cases c4 : x5_1 < (l0.length : Int)
   ·rw [if_pos c4] at H
    have c4b0 : decide (x5_1 < (l0.length : Int)) = true := decide_eq_true c4
    clear c4
    by_cases c5 : 0 ≤ x5_1
    ·rw [if_pos c5] at H
     have c5b0 : decide (0 ≤ x5_1) = true := decide_eq_true c5
     clear c5
     by_cases c6 : ((rd_T46 l0 x5_1).f0) = a1_0
     ·rw [if_pos c6] at H
      have c6b0 : (((rd_T46 l0 x5_1).f0) == a1_0) = true := beq_iff_eq.mpr c6
      have c6b1 : (((rd_T46 l0 x5_1).f0) != a1_0) = false := bne_eq_false_iff_eq.mpr c6
      clear c6
      by_cases c7 : ((rd_T46 l0 x5_1).f1) = a1_1
      ·rw [if_pos c7] at H
       have c7b0 : (((rd_T46 l0 x5_1).f1) == a1_1) = true := beq_iff_eq.mpr c7
       have c7b1 : (((rd_T46 l0 x5_1).f1) != a1_1) = false := bne_eq_false_iff_eq.mpr c7
       clear c7
       replace H := Option.bind_eq_some_iff.mp H
       obtain ⟨t153, A80, H⟩ := H
       replace H : (if t153 = true then (some true) else (vellumref17_spanned.l0 k1 l0 (wrap64 (x5_1 + 1)) a1_0 a1_1 a1_2)) = some r := H
       have A8 := am A80
       clear A80
       by_cases c9 : t153 = true
       ·subst c9
        have H1 : (some true) = some r := by rw [if_pos rfl] at H; exact H
        clear H
        have H := H1
        clear H1
        obtain rfl := Option.some.inj H
        try go_wp2
        have n0_ := am (blk_drew BK149.out)
        have n1_ := am (below_drew1 HB.out)
        clear BK149
        clear HB
        have BK149 := n0_
        have HB := n1_
        clear n0_ n1_
        have p150 : 0 ≤ (x5_1 : Int) := oda
        have q150 : x5_1 < (l0.length : Int) := oda
        obtain ⟨ad150, e150, hx150_0, hx150_1, hx150_2, hx150_3, hx150_4⟩ := at_T46 HR0.out x5_1 p150 q150
        have hw150_4 := hx150_4
        have hw150_3 := hx150_3
        have hw150_2 := hx150_2
        have hw150_1 := hx150_1
        have hw150_0 := hx150_0
        cases e150
        replace hx150_0 := hc HB hx150_0
        replace hx150_1 := hc HB hx150_1
        replace hx150_2 := hc HB hx150_2
        replace hx150_3 := hc HB hx150_3
        replace hx150_4 := hc HB hx150_4
        replace p150 := eq_true p150
        replace q150 := eq_true q150
        have p151 : 0 ≤ (x5_1 : Int) := oda
        have q151 : x5_1 < (l0.length : Int) := oda
        obtain ⟨ad151, e151, hx151_0, hx151_1, hx151_2, hx151_3, hx151_4⟩ := at_T46 HR0.out x5_1 p151 q151
        have hw151_4 := hx151_4
        have hw151_3 := hx151_3
        have hw151_2 := hx151_2
        have hw151_1 := hx151_1
        have hw151_0 := hx151_0
        obtain rfl : ad150 = ad151 := (by injection e151)
        replace hx151_0 := hc HB hx151_0
        replace hx151_1 := hc HB hx151_1
        replace hx151_2 := hc HB hx151_2
        replace hx151_3 := hc HB hx151_3
        replace hx151_4 := hc HB hx151_4
        replace p151 := eq_true p151
        replace q151 := eq_true q151
        have p152 : 0 ≤ (x5_1 : Int) := oda
        have q152 : x5_1 < (l0.length : Int) := oda
        obtain ⟨ad152, e152, hx152_0, hx152_1, hx152_2, hx152_3, hx152_4⟩ := at_T46 HR0.out x5_1 p152 q152
        have hw152_4 := hx152_4
        have hw152_3 := hx152_3
        have hw152_2 := hx152_2
        have hw152_1 := hx152_1
        have hw152_0 := hx152_0
        obtain rfl : ad150 = ad152 := (by injection e152)
        replace hx152_0 := hc HB hx152_0
        replace hx152_1 := hc HB hx152_1
        replace hx152_2 := hc HB hx152_2
        replace hx152_3 := hc HB hx152_3
        replace hx152_4 := hc HB hx152_4
        replace p152 := eq_true p152
        replace q152 := eq_true q152
        refine start_ (n := 28) (S := fun w' => w'.cell? ⟨gb149, 0, none⟩ = some (.int .i64 a1_0) ∧ w'.cell? ⟨gb149, 1, none⟩ = some (.int .i64 a1_1) ∧ w'.cell? ⟨gb149, 2, none⟩ = some (.string a1_2) ∧ w'.cell? (ad150.add ((x5_1).toNat * 5)) = some (.int .i64 ((rd_T46 l0 x5_1).f0)) ∧ w'.cell? ⟨(ad150.add ((x5_1).toNat * 5)).block, (ad150.add ((x5_1).toNat * 5)).off + 1, none⟩ = some (.int .i64 ((rd_T46 l0 x5_1).f1)) ∧ w'.cell? ⟨(ad150.add ((x5_1).toNat * 5)).block, (ad150.add ((x5_1).toNat * 5)).off + 2, none⟩ = some (.string ((rd_T46 l0 x5_1).f2.f0)) ∧ w'.cell? ⟨(ad150.add ((x5_1).toNat * 5)).block, (ad150.add ((x5_1).toNat * 5)).off + 3, none⟩ = some (.string ((rd_T46 l0 x5_1).f2.f1)) ∧ w'.cell? ⟨(ad150.add ((x5_1).toNat * 5)).block, (ad150.add ((x5_1).toNat * 5)).off + 4, none⟩ = some (.bool ((rd_T46 l0 x5_1).f2.f2)) ∧ w'.cell? (ad150.add ((x5_1).toNat * 5)) = some (.int .i64 ((rd_T46 l0 x5_1).f0)) ∧ w'.cell? ⟨(ad150.add ((x5_1).toNat * 5)).block, (ad150.add ((x5_1).toNat * 5)).off + 1, none⟩ = some (.int .i64 ((rd_T46 l0 x5_1).f1)) ∧ w'.cell? ⟨(ad150.add ((x5_1).toNat * 5)).block, (ad150.add ((x5_1).toNat * 5)).off + 2, none⟩ = some (.string ((rd_T46 l0 x5_1).f2.f0)) ∧ w'.cell? ⟨(ad150.add ((x5_1).toNat * 5)).block, (ad150.add ((x5_1).toNat * 5)).off + 3, none⟩ = some (.string ((rd_T46 l0 x5_1).f2.f1)) ∧ w'.cell? ⟨(ad150.add ((x5_1).toNat * 5)).block, (ad150.add ((x5_1).toNat * 5)).off + 4, none⟩ = some (.bool ((rd_T46 l0 x5_1).f2.f2)) ∧ w'.cell? (ad150.add ((x5_1).toNat * 5)) = some (.int .i64 ((rd_T46 l0 x5_1).f0)) ∧ w'.cell? ⟨(ad150.add ((x5_1).toNat * 5)).block, (ad150.add ((x5_1).toNat * 5)).off + 1, none⟩ = some (.int .i64 ((rd_T46 l0 x5_1).f1)) ∧ w'.cell? ⟨(ad150.add ((x5_1).toNat * 5)).block, (ad150.add ((x5_1).toNat * 5)).off + 2, none⟩ = some (.string ((rd_T46 l0 x5_1).f2.f0)) ∧ w'.cell? ⟨(ad150.add ((x5_1).toNat * 5)).block, (ad150.add ((x5_1).toNat * 5)).off + 3, none⟩ = some (.string ((rd_T46 l0 x5_1).f2.f1)) ∧ w'.cell? ⟨(ad150.add ((x5_1).toNat * 5)).block, (ad150.add ((x5_1).toNat * 5)).off + 4, none⟩ = some (.bool ((rd_T46 l0 x5_1).f2.f2))) (ds := []) (bb 0 28) (by kernel_rfl) rfl rfl ⟨(blk_cell BK149.out 0).trans rfl, (blk_cell BK149.out 1).trans rfl, (blk_cell BK149.out 2).trans rfl, (hc HB hw150_0), (hc HB hw150_1), (hc HB hw150_2), (hc HB hw150_3), (hc HB hw150_4), (hc HB hw151_0), (hc HB hw151_1), (hc HB hw151_2), (hc HB hw151_3), (hc HB hw151_4), (hc HB hw152_0), (hc HB hw152_1), (hc HB hw152_2), (hc HB hw152_3), (hc HB hw152_4)⟩ (fun hHeld => ?_); refine with_tabW vellumref17_spanned.tab4 vellumref17_spanned.bits4 (fun HT_ HW_ => ?_)
        generalize wr.drew = w10 at BK149 HB hx150_0 hx150_1 hx150_2 hx150_3 hx150_4 hx151_0 hx151_1 hx151_2 hx151_3 hx151_4 hx152_0 hx152_1 hx152_2 hx152_3 hx152_4 hHeld ⊢
        refine pu HT_ 0 (some 12) (bb 1 28) ?_
        refine pu HT_ 1 (some 13) (bb 2 28) ?_
        refine pu HT_ 2 (some 14) (bb 3 28) ?_
        refine pu HT_ 3 (some 15) (bb 4 28) ?_
        refine pu HT_ 5 (some 17) (bs 28 47) ?_
        refine tk HT_ HW_ hHeld 4 (some 16) (bb 6 28) ?_
        refine tk HT_ HW_ hHeld 6 (some 18) (bb 7 28) ?_
        refine pu HT_ 7 (some 19) (bb 8 28) ?_
        refine pu HT_ 8 (some 20) (bb 9 28) ?_
        refine pu HT_ 9 (some 21) (bb 10 28) ?_
        refine pu HT_ 10 (some 22) (bb 11 28) ?_
        refine pu HT_ 11 (some 23) (bb 12 28) ?_
        refine pu HT_ 12 (some 24) (bb 13 28) ?_
        refine pu HT_ 14 (some 26) (bs 28 24575) ?_
        refine tk HT_ HW_ hHeld 13 (some 25) (bb 15 28) ?_
        refine tk HT_ HW_ hHeld 15 (some 27) (bb 16 28) ?_
        refine pu HT_ 16 (some 28) (bb 17 28) ?_
        refine pu HT_ 17 (some 29) (bb 18 28) ?_
        refine pu HT_ 18 (some 30) (bb 19 28) ?_
        refine pu HT_ 19 (some 31) (bb 20 28) ?_
        refine pu HT_ 20 (some 32) (bb 21 28) ?_
        refine pu HT_ 21 (some 33) (bb 22 28) ?_
        refine pu HT_ 22 (some 34) (bb 23 28) ?_
        refine pu HT_ 24 (some 36) (bs 28 25165823) ?_
        refine tk HT_ HW_ hHeld 23 (some 35) (bb 25 28) ?_
        refine tk HT_ HW_ hHeld 25 (some 37) (bb 26 28) ?_
        refine one_ (i := 26) (N := some 38) (bb 27 28) rfl rfl (one_of HT_.out (by kernel_rfl)) (by decide) (fun K hK => ?_)
        refine goes_ Tryz.func81 (by kernel_rfl) rfl #[.agg #[.string ((rd_T46 l0 x5_1).f2.f0), .string ((rd_T46 l0 x5_1).f2.f1), .bool ((rd_T46 l0 x5_1).f2.f2)], .string a1_2] (by rfl) rfl rfl ar ?_
        with_reducible refine (vellumref02_Has.calls ((rd_T46 l0 x5_1).f2.f0) ((rd_T46 l0 x5_1).f2.f1) ((rd_T46 l0 x5_1).f2.f2) a1_2 true _ A8.out).mono ?_
        rintro e w11 ⟨rfl, hb⟩
        refine ⟨_, rfl, ?_⟩
        have n0_ := kb BK149 hb
        have n1_ := sb HB hb
        clear BK149
        clear HB
        have BK149 := n0_
        have HB := n1_
        clear n0_ n1_
        (try clear hb)
        (try clear hb2)
        (try clear hk)
        (try clear hi)
        refine hK.out _ _ ⟨(blk_cell BK149.out 0).trans rfl, (blk_cell BK149.out 1).trans rfl, (blk_cell BK149.out 2).trans rfl, (hc HB hw150_0), (hc HB hw150_1), (hc HB hw150_2), (hc HB hw150_3), (hc HB hw150_4), (hc HB hw151_0), (hc HB hw151_1), (hc HB hw151_2), (hc HB hw151_3), (hc HB hw151_4), (hc HB hw152_0), (hc HB hw152_1), (hc HB hw152_2), (hc HB hw152_3), (hc HB hw152_4)⟩ (fun hHeld => ?_)
        clear hK K
        refine norm_ (a' := ?_) ?_ ?_
        rotate_left
        ·show Act.put _ (some 38) _ = _
         simp only [Act.put, List.setIfInBounds_toArray, List.set_cons_zero, List.set_cons_succ, i64_w, i32_w]
         rfl
        refine pu HT_ 27 (some 39) (bb 28 28) ?_
        refine done_ (done_of HT_.out (by kernel_rfl)) ?_
        try go_wp2
        go_ret
        exact ⟨er, bl HB⟩
       ·replace c9 := Bool.eq_false_iff.mpr c9
        subst c9
        have H1 : (vellumref17_spanned.l0 k1 l0 (wrap64 (x5_1 + 1)) a1_0 a1_1 a1_2) = some r := by rw [if_neg (show ¬ (false = true) by decide)] at H; exact H
        clear H
        have H := H1
        clear H1
        have H' := am H
        clear H
        try go_wp2
        have n0_ := am (blk_drew BK149.out)
        have n1_ := am (below_drew1 HB.out)
        clear BK149
        clear HB
        have BK149 := n0_
        have HB := n1_
        clear n0_ n1_
        have p150 : 0 ≤ (x5_1 : Int) := oda
        have q150 : x5_1 < (l0.length : Int) := oda
        obtain ⟨ad150, e150, hx150_0, hx150_1, hx150_2, hx150_3, hx150_4⟩ := at_T46 HR0.out x5_1 p150 q150
        have hw150_4 := hx150_4
        have hw150_3 := hx150_3
        have hw150_2 := hx150_2
        have hw150_1 := hx150_1
        have hw150_0 := hx150_0
        cases e150
        replace hx150_0 := hc HB hx150_0
        replace hx150_1 := hc HB hx150_1
        replace hx150_2 := hc HB hx150_2
        replace hx150_3 := hc HB hx150_3
        replace hx150_4 := hc HB hx150_4
        replace p150 := eq_true p150
        replace q150 := eq_true q150
        have p151 : 0 ≤ (x5_1 : Int) := oda
        have q151 : x5_1 < (l0.length : Int) := oda
        obtain ⟨ad151, e151, hx151_0, hx151_1, hx151_2, hx151_3, hx151_4⟩ := at_T46 HR0.out x5_1 p151 q151
        have hw151_4 := hx151_4
        have hw151_3 := hx151_3
        have hw151_2 := hx151_2
        have hw151_1 := hx151_1
        have hw151_0 := hx151_0
        obtain rfl : ad150 = ad151 := (by injection e151)
        replace hx151_0 := hc HB hx151_0
        replace hx151_1 := hc HB hx151_1
        replace hx151_2 := hc HB hx151_2
        replace hx151_3 := hc HB hx151_3
        replace hx151_4 := hc HB hx151_4
        replace p151 := eq_true p151
        replace q151 := eq_true q151
        have p152 : 0 ≤ (x5_1 : Int) := oda
        have q152 : x5_1 < (l0.length : Int) := oda
        obtain ⟨ad152, e152, hx152_0, hx152_1, hx152_2, hx152_3, hx152_4⟩ := at_T46 HR0.out x5_1 p152 q152
        have hw152_4 := hx152_4
        have hw152_3 := hx152_3
        have hw152_2 := hx152_2
        have hw152_1 := hx152_1
        have hw152_0 := hx152_0
        obtain rfl : ad150 = ad152 := (by injection e152)
        replace hx152_0 := hc HB hx152_0
        replace hx152_1 := hc HB hx152_1
        replace hx152_2 := hc HB hx152_2
        replace hx152_3 := hc HB hx152_3
        replace hx152_4 := hc HB hx152_4
        replace p152 := eq_true p152
        replace q152 := eq_true q152
        refine start_ (n := 28) (S := fun w' => w'.cell? ⟨gb149, 0, none⟩ = some (.int .i64 a1_0) ∧ w'.cell? ⟨gb149, 1, none⟩ = some (.int .i64 a1_1) ∧ w'.cell? ⟨gb149, 2, none⟩ = some (.string a1_2) ∧ w'.cell? (ad150.add ((x5_1).toNat * 5)) = some (.int .i64 ((rd_T46 l0 x5_1).f0)) ∧ w'.cell? ⟨(ad150.add ((x5_1).toNat * 5)).block, (ad150.add ((x5_1).toNat * 5)).off + 1, none⟩ = some (.int .i64 ((rd_T46 l0 x5_1).f1)) ∧ w'.cell? ⟨(ad150.add ((x5_1).toNat * 5)).block, (ad150.add ((x5_1).toNat * 5)).off + 2, none⟩ = some (.string ((rd_T46 l0 x5_1).f2.f0)) ∧ w'.cell? ⟨(ad150.add ((x5_1).toNat * 5)).block, (ad150.add ((x5_1).toNat * 5)).off + 3, none⟩ = some (.string ((rd_T46 l0 x5_1).f2.f1)) ∧ w'.cell? ⟨(ad150.add ((x5_1).toNat * 5)).block, (ad150.add ((x5_1).toNat * 5)).off + 4, none⟩ = some (.bool ((rd_T46 l0 x5_1).f2.f2)) ∧ w'.cell? (ad150.add ((x5_1).toNat * 5)) = some (.int .i64 ((rd_T46 l0 x5_1).f0)) ∧ w'.cell? ⟨(ad150.add ((x5_1).toNat * 5)).block, (ad150.add ((x5_1).toNat * 5)).off + 1, none⟩ = some (.int .i64 ((rd_T46 l0 x5_1).f1)) ∧ w'.cell? ⟨(ad150.add ((x5_1).toNat * 5)).block, (ad150.add ((x5_1).toNat * 5)).off + 2, none⟩ = some (.string ((rd_T46 l0 x5_1).f2.f0)) ∧ w'.cell? ⟨(ad150.add ((x5_1).toNat * 5)).block, (ad150.add ((x5_1).toNat * 5)).off + 3, none⟩ = some (.string ((rd_T46 l0 x5_1).f2.f1)) ∧ w'.cell? ⟨(ad150.add ((x5_1).toNat * 5)).block, (ad150.add ((x5_1).toNat * 5)).off + 4, none⟩ = some (.bool ((rd_T46 l0 x5_1).f2.f2)) ∧ w'.cell? (ad150.add ((x5_1).toNat * 5)) = some (.int .i64 ((rd_T46 l0 x5_1).f0)) ∧ w'.cell? ⟨(ad150.add ((x5_1).toNat * 5)).block, (ad150.add ((x5_1).toNat * 5)).off + 1, none⟩ = some (.int .i64 ((rd_T46 l0 x5_1).f1)) ∧ w'.cell? ⟨(ad150.add ((x5_1).toNat * 5)).block, (ad150.add ((x5_1).toNat * 5)).off + 2, none⟩ = some (.string ((rd_T46 l0 x5_1).f2.f0)) ∧ w'.cell? ⟨(ad150.add ((x5_1).toNat * 5)).block, (ad150.add ((x5_1).toNat * 5)).off + 3, none⟩ = some (.string ((rd_T46 l0 x5_1).f2.f1)) ∧ w'.cell? ⟨(ad150.add ((x5_1).toNat * 5)).block, (ad150.add ((x5_1).toNat * 5)).off + 4, none⟩ = some (.bool ((rd_T46 l0 x5_1).f2.f2))) (ds := []) (bb 0 28) (by kernel_rfl) rfl rfl ⟨(blk_cell BK149.out 0).trans rfl, (blk_cell BK149.out 1).trans rfl, (blk_cell BK149.out 2).trans rfl, (hc HB hw150_0), (hc HB hw150_1), (hc HB hw150_2), (hc HB hw150_3), (hc HB hw150_4), (hc HB hw151_0), (hc HB hw151_1), (hc HB hw151_2), (hc HB hw151_3), (hc HB hw151_4), (hc HB hw152_0), (hc HB hw152_1), (hc HB hw152_2), (hc HB hw152_3), (hc HB hw152_4)⟩ (fun hHeld => ?_); refine with_tabW vellumref17_spanned.tab4 vellumref17_spanned.bits4 (fun HT_ HW_ => ?_)
        generalize wr.drew = w12 at BK149 HB hx150_0 hx150_1 hx150_2 hx150_3 hx150_4 hx151_0 hx151_1 hx151_2 hx151_3 hx151_4 hx152_0 hx152_1 hx152_2 hx152_3 hx152_4 hHeld ⊢
        refine pu HT_ 0 (some 12) (bb 1 28) ?_
        refine pu HT_ 1 (some 13) (bb 2 28) ?_
        refine pu HT_ 2 (some 14) (bb 3 28) ?_
        refine pu HT_ 3 (some 15) (bb 4 28) ?_
        refine pu HT_ 5 (some 17) (bs 28 47) ?_
        refine tk HT_ HW_ hHeld 4 (some 16) (bb 6 28) ?_
        refine tk HT_ HW_ hHeld 6 (some 18) (bb 7 28) ?_
        refine pu HT_ 7 (some 19) (bb 8 28) ?_
        refine pu HT_ 8 (some 20) (bb 9 28) ?_
        refine pu HT_ 9 (some 21) (bb 10 28) ?_
        refine pu HT_ 10 (some 22) (bb 11 28) ?_
        refine pu HT_ 11 (some 23) (bb 12 28) ?_
        refine pu HT_ 12 (some 24) (bb 13 28) ?_
        refine pu HT_ 14 (some 26) (bs 28 24575) ?_
        refine tk HT_ HW_ hHeld 13 (some 25) (bb 15 28) ?_
        refine tk HT_ HW_ hHeld 15 (some 27) (bb 16 28) ?_
        refine pu HT_ 16 (some 28) (bb 17 28) ?_
        refine pu HT_ 17 (some 29) (bb 18 28) ?_
        refine pu HT_ 18 (some 30) (bb 19 28) ?_
        refine pu HT_ 19 (some 31) (bb 20 28) ?_
        refine pu HT_ 20 (some 32) (bb 21 28) ?_
        refine pu HT_ 21 (some 33) (bb 22 28) ?_
        refine pu HT_ 22 (some 34) (bb 23 28) ?_
        refine pu HT_ 24 (some 36) (bs 28 25165823) ?_
        refine tk HT_ HW_ hHeld 23 (some 35) (bb 25 28) ?_
        refine tk HT_ HW_ hHeld 25 (some 37) (bb 26 28) ?_
        refine one_ (i := 26) (N := some 38) (bb 27 28) rfl rfl (one_of HT_.out (by kernel_rfl)) (by decide) (fun K hK => ?_)
        refine goes_ Tryz.func81 (by kernel_rfl) rfl #[.agg #[.string ((rd_T46 l0 x5_1).f2.f0), .string ((rd_T46 l0 x5_1).f2.f1), .bool ((rd_T46 l0 x5_1).f2.f2)], .string a1_2] (by rfl) rfl rfl ar ?_
        with_reducible refine (vellumref02_Has.calls ((rd_T46 l0 x5_1).f2.f0) ((rd_T46 l0 x5_1).f2.f1) ((rd_T46 l0 x5_1).f2.f2) a1_2 false _ A8.out).mono ?_
        rintro e w13 ⟨rfl, hb⟩
        refine ⟨_, rfl, ?_⟩
        have n0_ := kb BK149 hb
        have n1_ := sb HB hb
        clear BK149
        clear HB
        have BK149 := n0_
        have HB := n1_
        clear n0_ n1_
        (try clear hb)
        (try clear hb2)
        (try clear hk)
        (try clear hi)
        refine hK.out _ _ ⟨(blk_cell BK149.out 0).trans rfl, (blk_cell BK149.out 1).trans rfl, (blk_cell BK149.out 2).trans rfl, (hc HB hw150_0), (hc HB hw150_1), (hc HB hw150_2), (hc HB hw150_3), (hc HB hw150_4), (hc HB hw151_0), (hc HB hw151_1), (hc HB hw151_2), (hc HB hw151_3), (hc HB hw151_4), (hc HB hw152_0), (hc HB hw152_1), (hc HB hw152_2), (hc HB hw152_3), (hc HB hw152_4)⟩ (fun hHeld => ?_)
        clear hK K
        refine norm_ (a' := ?_) ?_ ?_
        rotate_left
        ·show Act.put _ (some 38) _ = _
         simp only [Act.put, List.setIfInBounds_toArray, List.set_cons_zero, List.set_cons_succ, i64_w, i32_w]
         rfl
        refine pu HT_ 27 (some 39) (bb 28 28) ?_
        refine done_ (done_of HT_.out (by kernel_rfl)) ?_
        try go_wp2
        go_roundg k1
        case measure => have := HK1.out; omega
        case rel => exact ⟨(wrap64 (x5_1 + 1)), eb, H', ⟨by have := HK1.out; omega⟩, ⟨bk BK149⟩, ⟨bl HB⟩⟩
      ·rw [if_neg c7] at H
       have c7b0 : (((rd_T46 l0 x5_1).f1) == a1_1) = false := beq_eq_false_iff_ne.mpr c7
       have c7b1 : (((rd_T46 l0 x5_1).f1) != a1_1) = true := bne_iff_ne.mpr c7
       have H' := am H
       clear H
       try go_wp2
       have n0_ := am (blk_drew BK149.out)
       have n1_ := am (below_drew1 HB.out)
       clear BK149
       clear HB
       have BK149 := n0_
       have HB := n1_
       clear n0_ n1_
       have p150 : 0 ≤ (x5_1 : Int) := oda
       have q150 : x5_1 < (l0.length : Int) := oda
       obtain ⟨ad150, e150, hx150_0, hx150_1, hx150_2, hx150_3, hx150_4⟩ := at_T46 HR0.out x5_1 p150 q150
       have hw150_4 := hx150_4
       have hw150_3 := hx150_3
       have hw150_2 := hx150_2
       have hw150_1 := hx150_1
       have hw150_0 := hx150_0
       cases e150
       replace hx150_0 := hc HB hx150_0
       replace hx150_1 := hc HB hx150_1
       replace hx150_2 := hc HB hx150_2
       replace hx150_3 := hc HB hx150_3
       replace hx150_4 := hc HB hx150_4
       replace p150 := eq_true p150
       replace q150 := eq_true q150
       have p151 : 0 ≤ (x5_1 : Int) := oda
       have q151 : x5_1 < (l0.length : Int) := oda
       obtain ⟨ad151, e151, hx151_0, hx151_1, hx151_2, hx151_3, hx151_4⟩ := at_T46 HR0.out x5_1 p151 q151
       have hw151_4 := hx151_4
       have hw151_3 := hx151_3
       have hw151_2 := hx151_2
       have hw151_1 := hx151_1
       have hw151_0 := hx151_0
       obtain rfl : ad150 = ad151 := (by injection e151)
       replace hx151_0 := hc HB hx151_0
       replace hx151_1 := hc HB hx151_1
       replace hx151_2 := hc HB hx151_2
       replace hx151_3 := hc HB hx151_3
       replace hx151_4 := hc HB hx151_4
       replace p151 := eq_true p151
       replace q151 := eq_true q151
       refine start_ (n := 28) (S := fun w' => w'.cell? ⟨gb149, 0, none⟩ = some (.int .i64 a1_0) ∧ w'.cell? ⟨gb149, 1, none⟩ = some (.int .i64 a1_1) ∧ w'.cell? ⟨gb149, 2, none⟩ = some (.string a1_2) ∧ w'.cell? (ad150.add ((x5_1).toNat * 5)) = some (.int .i64 ((rd_T46 l0 x5_1).f0)) ∧ w'.cell? ⟨(ad150.add ((x5_1).toNat * 5)).block, (ad150.add ((x5_1).toNat * 5)).off + 1, none⟩ = some (.int .i64 ((rd_T46 l0 x5_1).f1)) ∧ w'.cell? ⟨(ad150.add ((x5_1).toNat * 5)).block, (ad150.add ((x5_1).toNat * 5)).off + 2, none⟩ = some (.string ((rd_T46 l0 x5_1).f2.f0)) ∧ w'.cell? ⟨(ad150.add ((x5_1).toNat * 5)).block, (ad150.add ((x5_1).toNat * 5)).off + 3, none⟩ = some (.string ((rd_T46 l0 x5_1).f2.f1)) ∧ w'.cell? ⟨(ad150.add ((x5_1).toNat * 5)).block, (ad150.add ((x5_1).toNat * 5)).off + 4, none⟩ = some (.bool ((rd_T46 l0 x5_1).f2.f2)) ∧ w'.cell? (ad150.add ((x5_1).toNat * 5)) = some (.int .i64 ((rd_T46 l0 x5_1).f0)) ∧ w'.cell? ⟨(ad150.add ((x5_1).toNat * 5)).block, (ad150.add ((x5_1).toNat * 5)).off + 1, none⟩ = some (.int .i64 ((rd_T46 l0 x5_1).f1)) ∧ w'.cell? ⟨(ad150.add ((x5_1).toNat * 5)).block, (ad150.add ((x5_1).toNat * 5)).off + 2, none⟩ = some (.string ((rd_T46 l0 x5_1).f2.f0)) ∧ w'.cell? ⟨(ad150.add ((x5_1).toNat * 5)).block, (ad150.add ((x5_1).toNat * 5)).off + 3, none⟩ = some (.string ((rd_T46 l0 x5_1).f2.f1)) ∧ w'.cell? ⟨(ad150.add ((x5_1).toNat * 5)).block, (ad150.add ((x5_1).toNat * 5)).off + 4, none⟩ = some (.bool ((rd_T46 l0 x5_1).f2.f2))) (ds := []) (bb 0 28) (by kernel_rfl) rfl rfl ⟨(blk_cell BK149.out 0).trans rfl, (blk_cell BK149.out 1).trans rfl, (blk_cell BK149.out 2).trans rfl, (hc HB hw150_0), (hc HB hw150_1), (hc HB hw150_2), (hc HB hw150_3), (hc HB hw150_4), (hc HB hw151_0), (hc HB hw151_1), (hc HB hw151_2), (hc HB hw151_3), (hc HB hw151_4)⟩ (fun hHeld => ?_); refine with_tabW vellumref17_spanned.tab4 vellumref17_spanned.bits4 (fun HT_ HW_ => ?_)
       generalize wr.drew = w14 at BK149 HB hx150_0 hx150_1 hx150_2 hx150_3 hx150_4 hx151_0 hx151_1 hx151_2 hx151_3 hx151_4 hHeld ⊢
       refine pu HT_ 0 (some 12) (bb 1 28) ?_
       refine pu HT_ 1 (some 13) (bb 2 28) ?_
       refine pu HT_ 2 (some 14) (bb 3 28) ?_
       refine pu HT_ 3 (some 15) (bb 4 28) ?_
       refine pu HT_ 5 (some 17) (bs 28 47) ?_
       refine tk HT_ HW_ hHeld 4 (some 16) (bb 6 28) ?_
       refine tk HT_ HW_ hHeld 6 (some 18) (bb 7 28) ?_
       refine pu HT_ 7 (some 19) (bb 8 28) ?_
       refine pu HT_ 8 (some 20) (bb 9 28) ?_
       refine pu HT_ 9 (some 21) (bb 10 28) ?_
       refine pu HT_ 10 (some 22) (bb 11 28) ?_
       refine pu HT_ 11 (some 23) (bb 12 28) ?_
       refine pu HT_ 12 (some 24) (bb 13 28) ?_
       refine pu HT_ 14 (some 26) (bs 28 24575) ?_
       refine tk HT_ HW_ hHeld 13 (some 25) (bb 15 28) ?_
       refine tk HT_ HW_ hHeld 15 (some 27) (bb 16 28) ?_
       refine pu HT_ 16 (some 28) (bb 17 28) ?_
       refine pu HT_ 17 (some 29) (bb 18 28) ?_
       refine pu HT_ 18 (some 30) (bb 19 28) ?_
       refine pure_ (i := 19) (N := some 31) (v := undef) (a' := ?_) (bb 20 28) rfl rfl (any_of HT_.out (by kernel_rfl)) (fun _ _ _ h => h) (Or.inr ⟨by rfl, rfl⟩) ?_ ?_
       rotate_left
       ·simp only [Act.put, List.setIfInBounds_toArray, List.set_cons_zero, List.set_cons_succ, i64_w, i32_w]
        rfl
       refine pure_ (i := 20) (N := some 32) (v := undef) (a' := ?_) (bb 21 28) rfl rfl (any_of HT_.out (by kernel_rfl)) (fun _ _ _ h => h) (Or.inr ⟨by rfl, rfl⟩) ?_ ?_
       rotate_left
       ·simp only [Act.put, List.setIfInBounds_toArray, List.set_cons_zero, List.set_cons_succ, i64_w, i32_w]
        rfl
       refine pure_ (i := 21) (N := some 33) (v := undef) (a' := ?_) (bb 22 28) rfl rfl (any_of HT_.out (by kernel_rfl)) (fun _ _ _ h => h) (Or.inr ⟨by rfl, rfl⟩) ?_ ?_
       rotate_left
       ·simp only [Act.put, List.setIfInBounds_toArray, List.set_cons_zero, List.set_cons_succ, i64_w, i32_w]
        rfl
       refine pure_ (i := 22) (N := some 34) (v := undef) (a' := ?_) (bb 23 28) rfl rfl (any_of HT_.out (by kernel_rfl)) (fun _ _ _ h => h) (Or.inr ⟨by rfl, rfl⟩) ?_ ?_
       rotate_left
       ·simp only [Act.put, List.setIfInBounds_toArray, List.set_cons_zero, List.set_cons_succ, i64_w, i32_w]
        rfl
       refine pure_ (i := 23) (N := some 35) (v := undef) (a' := ?_) (bb 24 28) rfl rfl (any_of HT_.out (by kernel_rfl)) (fun _ _ _ h => h) (Or.inr ⟨by rfl, rfl⟩) ?_ ?_
       rotate_left
       ·simp only [Act.put, List.setIfInBounds_toArray, List.set_cons_zero, List.set_cons_succ, i64_w, i32_w]
        rfl
       refine pure_ (i := 24) (N := some 36) (v := undef) (a' := ?_) (bb 25 28) rfl rfl (any_of HT_.out (by kernel_rfl)) (fun _ _ _ h => h) (Or.inr ⟨by rfl, rfl⟩) ?_ ?_
       rotate_left
       ·simp only [Act.put, List.setIfInBounds_toArray, List.set_cons_zero, List.set_cons_succ, i64_w, i32_w]
        rfl
       refine pure_ (i := 25) (N := some 37) (v := undef) (a' := ?_) (bb 26 28) rfl rfl (any_of HT_.out (by kernel_rfl)) (fun _ _ _ h => h) (Or.inr ⟨by rfl, rfl⟩) ?_ ?_
       rotate_left
       ·simp only [Act.put, List.setIfInBounds_toArray, List.set_cons_zero, List.set_cons_succ, i64_w, i32_w]
        rfl
       refine pure_ (i := 26) (N := some 38) (v := undef) (a' := ?_) (bb 27 28) rfl rfl (any_of HT_.out (by kernel_rfl)) (fun _ _ _ h => h) (Or.inr ⟨by rfl, rfl⟩) ?_ ?_
       rotate_left
       ·simp only [Act.put, List.setIfInBounds_toArray, List.set_cons_zero, List.set_cons_succ, i64_w, i32_w]
        rfl
       refine pu HT_ 27 (some 39) (bb 28 28) ?_
       refine done_ (done_of HT_.out (by kernel_rfl)) ?_
       try go_wp2
       go_roundg k1
       case measure => have := HK1.out; omega
       case rel => exact ⟨(wrap64 (x5_1 + 1)), eb, H', ⟨by have := HK1.out; omega⟩, ⟨bk BK149⟩, ⟨bl HB⟩⟩
     ·rw [if_neg c6] at H
      have c6b0 : (((rd_T46 l0 x5_1).f0) == a1_0) = false := beq_eq_false_iff_ne.mpr c6
      have c6b1 : (((rd_T46 l0 x5_1).f0) != a1_0) = true := bne_iff_ne.mpr c6
      have H' := am H
      clear H
      try go_wp2
      have n0_ := am (blk_drew BK149.out)
      have n1_ := am (below_drew1 HB.out)
      clear BK149
      clear HB
      have BK149 := n0_
      have HB := n1_
      clear n0_ n1_
      have p150 : 0 ≤ (x5_1 : Int) := oda
      have q150 : x5_1 < (l0.length : Int) := oda
      obtain ⟨ad150, e150, hx150_0, hx150_1, hx150_2, hx150_3, hx150_4⟩ := at_T46 HR0.out x5_1 p150 q150
      have hw150_4 := hx150_4
      have hw150_3 := hx150_3
      have hw150_2 := hx150_2
      have hw150_1 := hx150_1
      have hw150_0 := hx150_0
      cases e150
      replace hx150_0 := hc HB hx150_0
      replace hx150_1 := hc HB hx150_1
      replace hx150_2 := hc HB hx150_2
      replace hx150_3 := hc HB hx150_3
      replace hx150_4 := hc HB hx150_4
      replace p150 := eq_true p150
      replace q150 := eq_true q150
      refine start_ (n := 28) (S := fun w' => w'.cell? ⟨gb149, 0, none⟩ = some (.int .i64 a1_0) ∧ w'.cell? ⟨gb149, 1, none⟩ = some (.int .i64 a1_1) ∧ w'.cell? ⟨gb149, 2, none⟩ = some (.string a1_2) ∧ w'.cell? (ad150.add ((x5_1).toNat * 5)) = some (.int .i64 ((rd_T46 l0 x5_1).f0)) ∧ w'.cell? ⟨(ad150.add ((x5_1).toNat * 5)).block, (ad150.add ((x5_1).toNat * 5)).off + 1, none⟩ = some (.int .i64 ((rd_T46 l0 x5_1).f1)) ∧ w'.cell? ⟨(ad150.add ((x5_1).toNat * 5)).block, (ad150.add ((x5_1).toNat * 5)).off + 2, none⟩ = some (.string ((rd_T46 l0 x5_1).f2.f0)) ∧ w'.cell? ⟨(ad150.add ((x5_1).toNat * 5)).block, (ad150.add ((x5_1).toNat * 5)).off + 3, none⟩ = some (.string ((rd_T46 l0 x5_1).f2.f1)) ∧ w'.cell? ⟨(ad150.add ((x5_1).toNat * 5)).block, (ad150.add ((x5_1).toNat * 5)).off + 4, none⟩ = some (.bool ((rd_T46 l0 x5_1).f2.f2))) (ds := []) (bb 0 28) (by kernel_rfl) rfl rfl ⟨(blk_cell BK149.out 0).trans rfl, (blk_cell BK149.out 1).trans rfl, (blk_cell BK149.out 2).trans rfl, (hc HB hw150_0), (hc HB hw150_1), (hc HB hw150_2), (hc HB hw150_3), (hc HB hw150_4)⟩ (fun hHeld => ?_); refine with_tabW vellumref17_spanned.tab4 vellumref17_spanned.bits4 (fun HT_ HW_ => ?_)
      generalize wr.drew = w15 at BK149 HB hx150_0 hx150_1 hx150_2 hx150_3 hx150_4 hHeld ⊢
      refine pu HT_ 0 (some 12) (bb 1 28) ?_
      refine pu HT_ 1 (some 13) (bb 2 28) ?_
      refine pu HT_ 2 (some 14) (bb 3 28) ?_
      refine pu HT_ 3 (some 15) (bb 4 28) ?_
      refine pu HT_ 5 (some 17) (bs 28 47) ?_
      refine tk HT_ HW_ hHeld 4 (some 16) (bb 6 28) ?_
      refine tk HT_ HW_ hHeld 6 (some 18) (bb 7 28) ?_
      refine pu HT_ 7 (some 19) (bb 8 28) ?_
      refine pu HT_ 8 (some 20) (bb 9 28) ?_
      refine pure_ (i := 9) (N := some 21) (v := undef) (a' := ?_) (bb 10 28) rfl rfl (any_of HT_.out (by kernel_rfl)) (fun _ _ _ h => h) (Or.inr ⟨by rfl, rfl⟩) ?_ ?_
      rotate_left
      ·simp only [Act.put, List.setIfInBounds_toArray, List.set_cons_zero, List.set_cons_succ, i64_w, i32_w]
       rfl
      refine pure_ (i := 10) (N := some 22) (v := undef) (a' := ?_) (bb 11 28) rfl rfl (any_of HT_.out (by kernel_rfl)) (fun _ _ _ h => h) (Or.inr ⟨by rfl, rfl⟩) ?_ ?_
      rotate_left
      ·simp only [Act.put, List.setIfInBounds_toArray, List.set_cons_zero, List.set_cons_succ, i64_w, i32_w]
       rfl
      refine pure_ (i := 11) (N := some 23) (v := undef) (a' := ?_) (bb 12 28) rfl rfl (any_of HT_.out (by kernel_rfl)) (fun _ _ _ h => h) (Or.inr ⟨by rfl, rfl⟩) ?_ ?_
      rotate_left
      ·simp only [Act.put, List.setIfInBounds_toArray, List.set_cons_zero, List.set_cons_succ, i64_w, i32_w]
       rfl
      refine pure_ (i := 12) (N := some 24) (v := undef) (a' := ?_) (bb 13 28) rfl rfl (any_of HT_.out (by kernel_rfl)) (fun _ _ _ h => h) (Or.inr ⟨by rfl, rfl⟩) ?_ ?_
      rotate_left
      ·simp only [Act.put, List.setIfInBounds_toArray, List.set_cons_zero, List.set_cons_succ, i64_w, i32_w]
       rfl
      refine pure_ (i := 13) (N := some 25) (v := undef) (a' := ?_) (bb 14 28) rfl rfl (any_of HT_.out (by kernel_rfl)) (fun _ _ _ h => h) (Or.inr ⟨by rfl, rfl⟩) ?_ ?_
      rotate_left
      ·simp only [Act.put, List.setIfInBounds_toArray, List.set_cons_zero, List.set_cons_succ, i64_w, i32_w]
       rfl
      refine pure_ (i := 14) (N := some 26) (v := undef) (a' := ?_) (bb 15 28) rfl rfl (any_of HT_.out (by kernel_rfl)) (fun _ _ _ h => h) (Or.inr ⟨by rfl, rfl⟩) ?_ ?_
      rotate_left
      ·simp only [Act.put, List.setIfInBounds_toArray, List.set_cons_zero, List.set_cons_succ, i64_w, i32_w]
       rfl
      refine pure_ (i := 15) (N := some 27) (v := undef) (a' := ?_) (bb 16 28) rfl rfl (any_of HT_.out (by kernel_rfl)) (fun _ _ _ h => h) (Or.inr ⟨by rfl, rfl⟩) ?_ ?_
      rotate_left
      ·simp only [Act.put, List.setIfInBounds_toArray, List.set_cons_zero, List.set_cons_succ, i64_w, i32_w]
       rfl
      refine pure_ (i := 16) (N := some 28) (v := undef) (a' := ?_) (bb 17 28) rfl rfl (any_of HT_.out (by kernel_rfl)) (fun _ _ _ h => h) (Or.inr ⟨by rfl, rfl⟩) ?_ ?_
      rotate_left
      ·simp only [Act.put, List.setIfInBounds_toArray, List.set_cons_zero, List.set_cons_succ, i64_w, i32_w]
       rfl
      refine pu HT_ 17 (some 29) (bb 18 28) ?_
      refine pu HT_ 18 (some 30) (bb 19 28) ?_
      refine pure_ (i := 19) (N := some 31) (v := undef) (a' := ?_) (bb 20 28) rfl rfl (any_of HT_.out (by kernel_rfl)) (fun _ _ _ h => h) (Or.inr ⟨by rfl, rfl⟩) ?_ ?_
      rotate_left
      ·simp only [Act.put, List.setIfInBounds_toArray, List.set_cons_zero, List.set_cons_succ, i64_w, i32_w]
       rfl
      refine pure_ (i := 20) (N := some 32) (v := undef) (a' := ?_) (bb 21 28) rfl rfl (any_of HT_.out (by kernel_rfl)) (fun _ _ _ h => h) (Or.inr ⟨by rfl, rfl⟩) ?_ ?_
      rotate_left
      ·simp only [Act.put, List.setIfInBounds_toArray, List.set_cons_zero, List.set_cons_succ, i64_w, i32_w]
       rfl
      refine pure_ (i := 21) (N := some 33) (v := undef) (a' := ?_) (bb 22 28) rfl rfl (any_of HT_.out (by kernel_rfl)) (fun _ _ _ h => h) (Or.inr ⟨by rfl, rfl⟩) ?_ ?_
      rotate_left
      ·simp only [Act.put, List.setIfInBounds_toArray, List.set_cons_zero, List.set_cons_succ, i64_w, i32_w]
       rfl
      refine pure_ (i := 22) (N := some 34) (v := undef) (a' := ?_) (bb 23 28) rfl rfl (any_of HT_.out (by kernel_rfl)) (fun _ _ _ h => h) (Or.inr ⟨by rfl, rfl⟩) ?_ ?_
      rotate_left
      ·simp only [Act.put, List.setIfInBounds_toArray, List.set_cons_zero, List.set_cons_succ, i64_w, i32_w]
       rfl
      refine pure_ (i := 23) (N := some 35) (v := undef) (a' := ?_) (bb 24 28) rfl rfl (any_of HT_.out (by kernel_rfl)) (fun _ _ _ h => h) (Or.inr ⟨by rfl, rfl⟩) ?_ ?_
      rotate_left
      ·simp only [Act.put, List.setIfInBounds_toArray, List.set_cons_zero, List.set_cons_succ, i64_w, i32_w]
       rfl
      refine pure_ (i := 24) (N := some 36) (v := undef) (a' := ?_) (bb 25 28) rfl rfl (any_of HT_.out (by kernel_rfl)) (fun _ _ _ h => h) (Or.inr ⟨by rfl, rfl⟩) ?_ ?_
      rotate_left
      ·simp only [Act.put, List.setIfInBounds_toArray, List.set_cons_zero, List.set_cons_succ, i64_w, i32_w]
       rfl
      refine pure_ (i := 25) (N := some 37) (v := undef) (a' := ?_) (bb 26 28) rfl rfl (any_of HT_.out (by kernel_rfl)) (fun _ _ _ h => h) (Or.inr ⟨by rfl, rfl⟩) ?_ ?_
      rotate_left
      ·simp only [Act.put, List.setIfInBounds_toArray, List.set_cons_zero, List.set_cons_succ, i64_w, i32_w]
       rfl
      refine pure_ (i := 26) (N := some 38) (v := undef) (a' := ?_) (bb 27 28) rfl rfl (any_of HT_.out (by kernel_rfl)) (fun _ _ _ h => h) (Or.inr ⟨by rfl, rfl⟩) ?_ ?_
      rotate_left
      ·simp only [Act.put, List.setIfInBounds_toArray, List.set_cons_zero, List.set_cons_succ, i64_w, i32_w]
       rfl
      refine pu HT_ 27 (some 39) (bb 28 28) ?_
      refine done_ (done_of HT_.out (by kernel_rfl)) ?_
      try go_wp2
      go_roundg k1
      case measure => have := HK1.out; omega
      case rel => exact ⟨(wrap64 (x5_1 + 1)), eb, H', ⟨by have := HK1.out; omega⟩, ⟨bk BK149⟩, ⟨bl HB⟩⟩
    ·rw [if_neg c5] at H
     exact absurd H (by simp)
   ·rw [if_neg c4] at H
    have c4b0 : decide (x5_1 < (l0.length : Int)) = false := decide_eq_false c4
    clear c4
    obtain rfl := Option.some.inj H
    go_wp2
    go_ret
    exact ⟨er, bl HB⟩
def vellumref01_Strings.f (a0 : ByteArray) (a1 : ByteArray) : Option (Int) := if (Op.bytesLess a0.toList a1.toList) = true then (some (-1)) else (if (Op.bytesLess a1.toList a0.toList) = true then (some 1) else (some 0))
set_option maxHeartbeats 8000000 in
set_option maxRecDepth 100000 in
theorem vellumref01_Strings.calls (a0 : ByteArray) (a1 : ByteArray) (r : Int) (w : World) (h : vellumref01_Strings.f a0 a1 = some r) :
  Calls Tryz.prog 90 #[.string a0, .string a1] w fun e w' => e = .returned (.int .i64 r) ∧ Drawn0 w w' := by
 have H : (if (Op.bytesLess a0.toList a1.toList) = true then (some (-1)) else (if (Op.bytesLess a1.toList a0.toList) = true then (some 1) else (some 0))) = some r := h
 clear h
 by_cases c3 : (Op.bytesLess a0.toList a1.toList) = true
 ·rw [if_pos c3] at H
  have c3b0 : (Op.bytesLess a0.toList a1.toList) = true := c3
  clear c3
  obtain rfl := Option.some.inj H
  go_enter Tryz.func90, Tryz.ntmps90
  go_wp2
  go_ret
  exact ⟨by first | rfl | (simp; done) | (simp [*]; done) | (simp [bool_ne_nil]; done) | (simp; exact bool_ne_nil _), by repeat (first | exact Drawn0.refl _ | apply Drawn0.step)⟩
 ·rw [if_neg c3] at H
  have c3b0 : (Op.bytesLess a0.toList a1.toList) = false := by simpa using c3
  clear c3
  by_cases c4 : (Op.bytesLess a1.toList a0.toList) = true
  ·rw [if_pos c4] at H
   have c4b0 : (Op.bytesLess a1.toList a0.toList) = true := c4
   clear c4
   obtain rfl := Option.some.inj H
   go_enter Tryz.func90, Tryz.ntmps90
   go_wp2
   go_ret
   exact ⟨by first | rfl | (simp; done) | (simp [*]; done) | (simp [bool_ne_nil]; done) | (simp; exact bool_ne_nil _), by repeat (first | exact Drawn0.refl _ | apply Drawn0.step)⟩
  ·rw [if_neg c4] at H
   have c4b0 : (Op.bytesLess a1.toList a0.toList) = false := by simpa using c4
   clear c4
   obtain rfl := Option.some.inj H
   go_enter Tryz.func90, Tryz.ntmps90
   go_wp2
   go_ret
   exact ⟨by first | rfl | (simp; done) | (simp [*]; done) | (simp [bool_ne_nil]; done) | (simp; exact bool_ne_nil _), by repeat (first | exact Drawn0.refl _ | apply Drawn0.step)⟩
def vellumref17_Cmp.f (a0_0 : Int) (a0_1 : Int) (a0_2 : ByteArray) (a1_0 : Int) (a1_1 : Int) (a1_2 : ByteArray) : Option (Int) := if a0_0 = a1_0 then (if a0_1 = a1_1 then ((vellumref01_Strings.f a0_2 a1_2).bind fun t156 => (some t156)) else (if a0_1 < a1_1 then (some (-1)) else (some 1))) else (if a0_0 < a1_0 then (some (-1)) else (some 1))
set_option maxHeartbeats 8000000 in
set_option maxRecDepth 100000 in
theorem vellumref17_Cmp.calls (a0_0 : Int) (a0_1 : Int) (a0_2 : ByteArray) (a1_0 : Int) (a1_1 : Int) (a1_2 : ByteArray) (r : Int) (w : World) (h : vellumref17_Cmp.f a0_0 a0_1 a0_2 a1_0 a1_1 a1_2 = some r) :
  Calls Tryz.prog 78 #[.agg #[.int .i64 a0_0, .int .i64 a0_1, .string a0_2], .agg #[.int .i64 a1_0, .int .i64 a1_1, .string a1_2]] w fun e w' => e = .returned (.int .i64 r) ∧ Below w.heap.size w w' := by
 have hu37 := Tryz.underlying37
 have HB := Aside0.mk (Below.refl w.heap.size w)
 have H : (if a0_0 = a1_0 then (if a0_1 = a1_1 then ((vellumref01_Strings.f a0_2 a1_2).bind fun t156 => (some t156)) else (if a0_1 < a1_1 then (some (-1)) else (some 1))) else (if a0_0 < a1_0 then (some (-1)) else (some 1))) = some r := h
 clear h
 by_cases c3 : a0_0 = a1_0
 ·rw [if_pos c3] at H
  have c3b0 : (a0_0 == a1_0) = true := beq_iff_eq.mpr c3
  have c3b1 : (a0_0 != a1_0) = false := bne_eq_false_iff_eq.mpr c3
  clear c3
  by_cases c4 : a0_1 = a1_1
  ·rw [if_pos c4] at H
   have c4b0 : (a0_1 == a1_1) = true := beq_iff_eq.mpr c4
   have c4b1 : (a0_1 != a1_1) = false := bne_eq_false_iff_eq.mpr c4
   clear c4
   replace H := Option.bind_eq_some_iff.mp H
   obtain ⟨t156, A50, H⟩ := H
   replace H : (some t156) = some r := H
   have A5 := Aside0.mk A50
   clear A50
   obtain rfl := Option.some.inj H
   go_enter Tryz.func78, Tryz.ntmps78
   go_wp2_with (first | ((with_reducible refine gate_dst (N := 2) rfl ?_); refine box_event ?hg (N := 2) ?hd (cs := #[.int .i64 a0_0, .int .i64 a0_1, .string a0_2]) (t := 37) ?hr ?_; (case hd => rfl); (case hg => rfl); (case hr => first | (go_simp; done) | (go_simp; rfl)); intro gb154 hg w6 hbox hb; have n0_ := Aside0.mk (below_step (by repeat (first | (with_reducible first | exact HB.out | apply below_alloc | apply pw_below_drewN | apply below_drew1) | exact HB.out)) hb); have n1_ := Aside0.mk (hbox); have n2_ := Aside0.mk ((by rw [hg]; exact (below_size (by repeat (first | (with_reducible first | exact HB.out | apply below_alloc | apply pw_below_drewN | apply below_drew1) | exact HB.out))) : w.heap.size ≤ gb154)); have n3_ := n2_; clear HB; have HB := n0_; have BK154 := n1_; have GW154 := n2_; have GE154 := n3_; clear n0_ n1_ n2_ n3_; clear hb hbox hg) | ((with_reducible refine gate_dst (N := 3) rfl ?_); refine box_event ?hg (N := 3) ?hd (cs := #[.int .i64 a1_0, .int .i64 a1_1, .string a1_2]) (t := 37) ?hr ?_; (case hd => rfl); (case hg => rfl); (case hr => first | (go_simp; done) | (go_simp; rfl)); intro gb155 hg w7 hbox hb; have n0_ := Aside0.mk (blk_below (g := gb154) (o := .cells #[.int .i64 a0_0, .int .i64 a0_1, .string a0_2] 37 (0, 0)) (by (with_reducible repeat (first | refine blk_drewN ?_ _ | refine blk_drew ?_ | refine blk_alloc ?_ _)); exact BK154.out) hb); have n1_ := Aside0.mk (below_step (by repeat (first | (with_reducible first | exact HB.out | apply below_alloc | apply pw_below_drewN | apply below_drew1 | refine below_set ?_ GE154.out) | exact HB.out)) hb); have n2_ := Aside0.mk (hbox); have n3_ := Aside0.mk ((by rw [hg]; exact (below_size (by repeat (first | (with_reducible first | exact HB.out | apply below_alloc | apply pw_below_drewN | apply below_drew1 | refine below_set ?_ GE154.out) | exact HB.out))) : w.heap.size ≤ gb155)); have n4_ := n3_; have n5_ := Aside0.mk ((by rw [hg]; exact Nat.ne_of_lt (blk_lt (g := gb154) (o := .cells #[.int .i64 a0_0, .int .i64 a0_1, .string a0_2] 37 (0, 0)) (by (with_reducible repeat (first | refine blk_drewN ?_ _ | refine blk_drew ?_ | refine blk_alloc ?_ _)); exact BK154.out)) : gb154 ≠ gb155)); have n6_ := Aside0.mk ((by rw [hg]; exact Nat.ne_of_gt (blk_lt (g := gb154) (o := .cells #[.int .i64 a0_0, .int .i64 a0_1, .string a0_2] 37 (0, 0)) (by (with_reducible repeat (first | refine blk_drewN ?_ _ | refine blk_drew ?_ | refine blk_alloc ?_ _)); exact BK154.out)) : gb155 ≠ gb154)); clear BK154; clear HB; have BK154 := n0_; have HB := n1_; have BK155 := n2_; have GW155 := n3_; have GE155 := n4_; have NB154_155 := n5_; have NB155_154 := n6_; clear n0_ n1_ n2_ n3_ n4_ n5_ n6_; clear hb hbox hg; have hnb8 := NB154_155.out; have hnc8 := NB155_154.out; have hcz9_0 : w7.cell? ⟨gb154, 0, none⟩ = some (.int .i64 a0_0) := (blk_cell BK154.out 0).trans rfl; have hcz9_1 : w7.cell? ⟨gb154, 1, none⟩ = some (.int .i64 a0_1) := (blk_cell BK154.out 1).trans rfl; have hcz9_2 : w7.cell? ⟨gb154, 2, none⟩ = some (.string a0_2) := (blk_cell BK154.out 2).trans rfl; have hfz9_0 := blk_frozen BK154.out 0; have hfz9_1 := blk_frozen BK154.out 1; have hfz9_2 := blk_frozen BK154.out 2; have hcz10_0 : w7.cell? ⟨gb155, 0, none⟩ = some (.int .i64 a1_0) := (blk_cell BK155.out 0).trans rfl; have hcz10_1 : w7.cell? ⟨gb155, 1, none⟩ = some (.int .i64 a1_1) := (blk_cell BK155.out 1).trans rfl; have hcz10_2 : w7.cell? ⟨gb155, 2, none⟩ = some (.string a1_2) := (blk_cell BK155.out 2).trans rfl; have hfz10_0 := blk_frozen BK155.out 0; have hfz10_1 := blk_frozen BK155.out 1; have hfz10_2 := blk_frozen BK155.out 2) | ((with_reducible refine gate_callee (f := 90) rfl ?_); refine goesL_ (some 29) rfl rfl Tryz.func90 (by kernel_rfl) rfl #[.string a0_2, .string a1_2] rfl (by (try simp only [List.map_toArray, List.map_cons, List.map_nil]); first | done | rfl | (simp only [List.length_drop, List.length_take]; rfl)) ?_; (with_reducible refine (vellumref01_Strings.calls a0_2 a1_2 t156 _ A5.out).mono ?_); rintro e w' ⟨rfl, ⟨nd, rfl⟩⟩; refine ⟨_, rfl, ?_⟩))
   go_ret
   exact ⟨by first | rfl | (simp [errW_none, errW_some] <;> rfl) | (simp [*, errW_none, errW_some] <;> rfl), by repeat (first | (with_reducible first | exact HB.out | apply below_alloc | apply pw_below_drewN | apply below_drew1 | refine below_set ?_ GE154.out | refine below_set ?_ GE155.out) | exact HB.out)⟩
  ·rw [if_neg c4] at H
   have c4b0 : (a0_1 == a1_1) = false := beq_eq_false_iff_ne.mpr c4
   have c4b1 : (a0_1 != a1_1) = true := bne_iff_ne.mpr c4
   by_cases c11 : a0_1 < a1_1
   ·rw [if_pos c11] at H
    have c11b0 : decide (a0_1 < a1_1) = true := decide_eq_true c11
    clear c11
    obtain rfl := Option.some.inj H
    go_enter Tryz.func78, Tryz.ntmps78
    go_wp2_with (first | ((with_reducible refine gate_dst (N := 2) rfl ?_); refine box_event ?hg (N := 2) ?hd (cs := #[.int .i64 a0_0, .int .i64 a0_1, .string a0_2]) (t := 37) ?hr ?_; (case hd => rfl); (case hg => rfl); (case hr => first | (go_simp; done) | (go_simp; rfl)); intro gb154 hg w12 hbox hb; have n0_ := Aside0.mk (below_step (by repeat (first | (with_reducible first | exact HB.out | apply below_alloc | apply pw_below_drewN | apply below_drew1) | exact HB.out)) hb); have n1_ := Aside0.mk (hbox); have n2_ := Aside0.mk ((by rw [hg]; exact (below_size (by repeat (first | (with_reducible first | exact HB.out | apply below_alloc | apply pw_below_drewN | apply below_drew1) | exact HB.out))) : w.heap.size ≤ gb154)); have n3_ := n2_; clear HB; have HB := n0_; have BK154 := n1_; have GW154 := n2_; have GE154 := n3_; clear n0_ n1_ n2_ n3_; clear hb hbox hg) | ((with_reducible refine gate_dst (N := 3) rfl ?_); refine box_event ?hg (N := 3) ?hd (cs := #[.int .i64 a1_0, .int .i64 a1_1, .string a1_2]) (t := 37) ?hr ?_; (case hd => rfl); (case hg => rfl); (case hr => first | (go_simp; done) | (go_simp; rfl)); intro gb155 hg w13 hbox hb; have n0_ := Aside0.mk (blk_below (g := gb154) (o := .cells #[.int .i64 a0_0, .int .i64 a0_1, .string a0_2] 37 (0, 0)) (by (with_reducible repeat (first | refine blk_drewN ?_ _ | refine blk_drew ?_ | refine blk_alloc ?_ _)); exact BK154.out) hb); have n1_ := Aside0.mk (below_step (by repeat (first | (with_reducible first | exact HB.out | apply below_alloc | apply pw_below_drewN | apply below_drew1 | refine below_set ?_ GE154.out) | exact HB.out)) hb); have n2_ := Aside0.mk (hbox); have n3_ := Aside0.mk ((by rw [hg]; exact (below_size (by repeat (first | (with_reducible first | exact HB.out | apply below_alloc | apply pw_below_drewN | apply below_drew1 | refine below_set ?_ GE154.out) | exact HB.out))) : w.heap.size ≤ gb155)); have n4_ := n3_; have n5_ := Aside0.mk ((by rw [hg]; exact Nat.ne_of_lt (blk_lt (g := gb154) (o := .cells #[.int .i64 a0_0, .int .i64 a0_1, .string a0_2] 37 (0, 0)) (by (with_reducible repeat (first | refine blk_drewN ?_ _ | refine blk_drew ?_ | refine blk_alloc ?_ _)); exact BK154.out)) : gb154 ≠ gb155)); have n6_ := Aside0.mk ((by rw [hg]; exact Nat.ne_of_gt (blk_lt (g := gb154) (o := .cells #[.int .i64 a0_0, .int .i64 a0_1, .string a0_2] 37 (0, 0)) (by (with_reducible repeat (first | refine blk_drewN ?_ _ | refine blk_drew ?_ | refine blk_alloc ?_ _)); exact BK154.out)) : gb155 ≠ gb154)); clear BK154; clear HB; have BK154 := n0_; have HB := n1_; have BK155 := n2_; have GW155 := n3_; have GE155 := n4_; have NB154_155 := n5_; have NB155_154 := n6_; clear n0_ n1_ n2_ n3_ n4_ n5_ n6_; clear hb hbox hg; have hnb14 := NB154_155.out; have hnc14 := NB155_154.out; have hcz15_0 : w13.cell? ⟨gb154, 0, none⟩ = some (.int .i64 a0_0) := (blk_cell BK154.out 0).trans rfl; have hcz15_1 : w13.cell? ⟨gb154, 1, none⟩ = some (.int .i64 a0_1) := (blk_cell BK154.out 1).trans rfl; have hcz15_2 : w13.cell? ⟨gb154, 2, none⟩ = some (.string a0_2) := (blk_cell BK154.out 2).trans rfl; have hfz15_0 := blk_frozen BK154.out 0; have hfz15_1 := blk_frozen BK154.out 1; have hfz15_2 := blk_frozen BK154.out 2; have hcz16_0 : w13.cell? ⟨gb155, 0, none⟩ = some (.int .i64 a1_0) := (blk_cell BK155.out 0).trans rfl; have hcz16_1 : w13.cell? ⟨gb155, 1, none⟩ = some (.int .i64 a1_1) := (blk_cell BK155.out 1).trans rfl; have hcz16_2 : w13.cell? ⟨gb155, 2, none⟩ = some (.string a1_2) := (blk_cell BK155.out 2).trans rfl; have hfz16_0 := blk_frozen BK155.out 0; have hfz16_1 := blk_frozen BK155.out 1; have hfz16_2 := blk_frozen BK155.out 2))
    go_ret
    exact ⟨by first | rfl | (simp [errW_none, errW_some] <;> rfl) | (simp [*, errW_none, errW_some] <;> rfl), by repeat (first | (with_reducible first | exact HB.out | apply below_alloc | apply pw_below_drewN | apply below_drew1 | refine below_set ?_ GE154.out | refine below_set ?_ GE155.out) | exact HB.out)⟩
   ·rw [if_neg c11] at H
    have c11b0 : decide (a0_1 < a1_1) = false := decide_eq_false c11
    clear c11
    obtain rfl := Option.some.inj H
    go_enter Tryz.func78, Tryz.ntmps78
    go_wp2_with (first | ((with_reducible refine gate_dst (N := 2) rfl ?_); refine box_event ?hg (N := 2) ?hd (cs := #[.int .i64 a0_0, .int .i64 a0_1, .string a0_2]) (t := 37) ?hr ?_; (case hd => rfl); (case hg => rfl); (case hr => first | (go_simp; done) | (go_simp; rfl)); intro gb154 hg w17 hbox hb; have n0_ := Aside0.mk (below_step (by repeat (first | (with_reducible first | exact HB.out | apply below_alloc | apply pw_below_drewN | apply below_drew1) | exact HB.out)) hb); have n1_ := Aside0.mk (hbox); have n2_ := Aside0.mk ((by rw [hg]; exact (below_size (by repeat (first | (with_reducible first | exact HB.out | apply below_alloc | apply pw_below_drewN | apply below_drew1) | exact HB.out))) : w.heap.size ≤ gb154)); have n3_ := n2_; clear HB; have HB := n0_; have BK154 := n1_; have GW154 := n2_; have GE154 := n3_; clear n0_ n1_ n2_ n3_; clear hb hbox hg) | ((with_reducible refine gate_dst (N := 3) rfl ?_); refine box_event ?hg (N := 3) ?hd (cs := #[.int .i64 a1_0, .int .i64 a1_1, .string a1_2]) (t := 37) ?hr ?_; (case hd => rfl); (case hg => rfl); (case hr => first | (go_simp; done) | (go_simp; rfl)); intro gb155 hg w18 hbox hb; have n0_ := Aside0.mk (blk_below (g := gb154) (o := .cells #[.int .i64 a0_0, .int .i64 a0_1, .string a0_2] 37 (0, 0)) (by (with_reducible repeat (first | refine blk_drewN ?_ _ | refine blk_drew ?_ | refine blk_alloc ?_ _)); exact BK154.out) hb); have n1_ := Aside0.mk (below_step (by repeat (first | (with_reducible first | exact HB.out | apply below_alloc | apply pw_below_drewN | apply below_drew1 | refine below_set ?_ GE154.out) | exact HB.out)) hb); have n2_ := Aside0.mk (hbox); have n3_ := Aside0.mk ((by rw [hg]; exact (below_size (by repeat (first | (with_reducible first | exact HB.out | apply below_alloc | apply pw_below_drewN | apply below_drew1 | refine below_set ?_ GE154.out) | exact HB.out))) : w.heap.size ≤ gb155)); have n4_ := n3_; have n5_ := Aside0.mk ((by rw [hg]; exact Nat.ne_of_lt (blk_lt (g := gb154) (o := .cells #[.int .i64 a0_0, .int .i64 a0_1, .string a0_2] 37 (0, 0)) (by (with_reducible repeat (first | refine blk_drewN ?_ _ | refine blk_drew ?_ | refine blk_alloc ?_ _)); exact BK154.out)) : gb154 ≠ gb155)); have n6_ := Aside0.mk ((by rw [hg]; exact Nat.ne_of_gt (blk_lt (g := gb154) (o := .cells #[.int .i64 a0_0, .int .i64 a0_1, .string a0_2] 37 (0, 0)) (by (with_reducible repeat (first | refine blk_drewN ?_ _ | refine blk_drew ?_ | refine blk_alloc ?_ _)); exact BK154.out)) : gb155 ≠ gb154)); clear BK154; clear HB; have BK154 := n0_; have HB := n1_; have BK155 := n2_; have GW155 := n3_; have GE155 := n4_; have NB154_155 := n5_; have NB155_154 := n6_; clear n0_ n1_ n2_ n3_ n4_ n5_ n6_; clear hb hbox hg; have hnb19 := NB154_155.out; have hnc19 := NB155_154.out; have hcz20_0 : w18.cell? ⟨gb154, 0, none⟩ = some (.int .i64 a0_0) := (blk_cell BK154.out 0).trans rfl; have hcz20_1 : w18.cell? ⟨gb154, 1, none⟩ = some (.int .i64 a0_1) := (blk_cell BK154.out 1).trans rfl; have hcz20_2 : w18.cell? ⟨gb154, 2, none⟩ = some (.string a0_2) := (blk_cell BK154.out 2).trans rfl; have hfz20_0 := blk_frozen BK154.out 0; have hfz20_1 := blk_frozen BK154.out 1; have hfz20_2 := blk_frozen BK154.out 2; have hcz21_0 : w18.cell? ⟨gb155, 0, none⟩ = some (.int .i64 a1_0) := (blk_cell BK155.out 0).trans rfl; have hcz21_1 : w18.cell? ⟨gb155, 1, none⟩ = some (.int .i64 a1_1) := (blk_cell BK155.out 1).trans rfl; have hcz21_2 : w18.cell? ⟨gb155, 2, none⟩ = some (.string a1_2) := (blk_cell BK155.out 2).trans rfl; have hfz21_0 := blk_frozen BK155.out 0; have hfz21_1 := blk_frozen BK155.out 1; have hfz21_2 := blk_frozen BK155.out 2))
    go_ret
    exact ⟨by first | rfl | (simp [errW_none, errW_some] <;> rfl) | (simp [*, errW_none, errW_some] <;> rfl), by repeat (first | (with_reducible first | exact HB.out | apply below_alloc | apply pw_below_drewN | apply below_drew1 | refine below_set ?_ GE154.out | refine below_set ?_ GE155.out) | exact HB.out)⟩
 ·rw [if_neg c3] at H
  have c3b0 : (a0_0 == a1_0) = false := beq_eq_false_iff_ne.mpr c3
  have c3b1 : (a0_0 != a1_0) = true := bne_iff_ne.mpr c3
  by_cases c22 : a0_0 < a1_0
  ·rw [if_pos c22] at H
   have c22b0 : decide (a0_0 < a1_0) = true := decide_eq_true c22
   clear c22
   obtain rfl := Option.some.inj H
   go_enter Tryz.func78, Tryz.ntmps78
   go_wp2_with (first | ((with_reducible refine gate_dst (N := 2) rfl ?_); refine box_event ?hg (N := 2) ?hd (cs := #[.int .i64 a0_0, .int .i64 a0_1, .string a0_2]) (t := 37) ?hr ?_; (case hd => rfl); (case hg => rfl); (case hr => first | (go_simp; done) | (go_simp; rfl)); intro gb154 hg w23 hbox hb; have n0_ := Aside0.mk (below_step (by repeat (first | (with_reducible first | exact HB.out | apply below_alloc | apply pw_below_drewN | apply below_drew1) | exact HB.out)) hb); have n1_ := Aside0.mk (hbox); have n2_ := Aside0.mk ((by rw [hg]; exact (below_size (by repeat (first | (with_reducible first | exact HB.out | apply below_alloc | apply pw_below_drewN | apply below_drew1) | exact HB.out))) : w.heap.size ≤ gb154)); have n3_ := n2_; clear HB; have HB := n0_; have BK154 := n1_; have GW154 := n2_; have GE154 := n3_; clear n0_ n1_ n2_ n3_; clear hb hbox hg) | ((with_reducible refine gate_dst (N := 3) rfl ?_); refine box_event ?hg (N := 3) ?hd (cs := #[.int .i64 a1_0, .int .i64 a1_1, .string a1_2]) (t := 37) ?hr ?_; (case hd => rfl); (case hg => rfl); (case hr => first | (go_simp; done) | (go_simp; rfl)); intro gb155 hg w24 hbox hb; have n0_ := Aside0.mk (blk_below (g := gb154) (o := .cells #[.int .i64 a0_0, .int .i64 a0_1, .string a0_2] 37 (0, 0)) (by (with_reducible repeat (first | refine blk_drewN ?_ _ | refine blk_drew ?_ | refine blk_alloc ?_ _)); exact BK154.out) hb); have n1_ := Aside0.mk (below_step (by repeat (first | (with_reducible first | exact HB.out | apply below_alloc | apply pw_below_drewN | apply below_drew1 | refine below_set ?_ GE154.out) | exact HB.out)) hb); have n2_ := Aside0.mk (hbox); have n3_ := Aside0.mk ((by rw [hg]; exact (below_size (by repeat (first | (with_reducible first | exact HB.out | apply below_alloc | apply pw_below_drewN | apply below_drew1 | refine below_set ?_ GE154.out) | exact HB.out))) : w.heap.size ≤ gb155)); have n4_ := n3_; have n5_ := Aside0.mk ((by rw [hg]; exact Nat.ne_of_lt (blk_lt (g := gb154) (o := .cells #[.int .i64 a0_0, .int .i64 a0_1, .string a0_2] 37 (0, 0)) (by (with_reducible repeat (first | refine blk_drewN ?_ _ | refine blk_drew ?_ | refine blk_alloc ?_ _)); exact BK154.out)) : gb154 ≠ gb155)); have n6_ := Aside0.mk ((by rw [hg]; exact Nat.ne_of_gt (blk_lt (g := gb154) (o := .cells #[.int .i64 a0_0, .int .i64 a0_1, .string a0_2] 37 (0, 0)) (by (with_reducible repeat (first | refine blk_drewN ?_ _ | refine blk_drew ?_ | refine blk_alloc ?_ _)); exact BK154.out)) : gb155 ≠ gb154)); clear BK154; clear HB; have BK154 := n0_; have HB := n1_; have BK155 := n2_; have GW155 := n3_; have GE155 := n4_; have NB154_155 := n5_; have NB155_154 := n6_; clear n0_ n1_ n2_ n3_ n4_ n5_ n6_; clear hb hbox hg; have hnb25 := NB154_155.out; have hnc25 := NB155_154.out; have hcz26_0 : w24.cell? ⟨gb154, 0, none⟩ = some (.int .i64 a0_0) := (blk_cell BK154.out 0).trans rfl; have hcz26_1 : w24.cell? ⟨gb154, 1, none⟩ = some (.int .i64 a0_1) := (blk_cell BK154.out 1).trans rfl; have hcz26_2 : w24.cell? ⟨gb154, 2, none⟩ = some (.string a0_2) := (blk_cell BK154.out 2).trans rfl; have hfz26_0 := blk_frozen BK154.out 0; have hfz26_1 := blk_frozen BK154.out 1; have hfz26_2 := blk_frozen BK154.out 2; have hcz27_0 : w24.cell? ⟨gb155, 0, none⟩ = some (.int .i64 a1_0) := (blk_cell BK155.out 0).trans rfl; have hcz27_1 : w24.cell? ⟨gb155, 1, none⟩ = some (.int .i64 a1_1) := (blk_cell BK155.out 1).trans rfl; have hcz27_2 : w24.cell? ⟨gb155, 2, none⟩ = some (.string a1_2) := (blk_cell BK155.out 2).trans rfl; have hfz27_0 := blk_frozen BK155.out 0; have hfz27_1 := blk_frozen BK155.out 1; have hfz27_2 := blk_frozen BK155.out 2))
   go_ret
   exact ⟨by first | rfl | (simp [errW_none, errW_some] <;> rfl) | (simp [*, errW_none, errW_some] <;> rfl), by repeat (first | (with_reducible first | exact HB.out | apply below_alloc | apply pw_below_drewN | apply below_drew1 | refine below_set ?_ GE154.out | refine below_set ?_ GE155.out) | exact HB.out)⟩
  ·rw [if_neg c22] at H
   have c22b0 : decide (a0_0 < a1_0) = false := decide_eq_false c22
   clear c22
   obtain rfl := Option.some.inj H
   go_enter Tryz.func78, Tryz.ntmps78
   go_wp2_with (first | ((with_reducible refine gate_dst (N := 2) rfl ?_); refine box_event ?hg (N := 2) ?hd (cs := #[.int .i64 a0_0, .int .i64 a0_1, .string a0_2]) (t := 37) ?hr ?_; (case hd => rfl); (case hg => rfl); (case hr => first | (go_simp; done) | (go_simp; rfl)); intro gb154 hg w28 hbox hb; have n0_ := Aside0.mk (below_step (by repeat (first | (with_reducible first | exact HB.out | apply below_alloc | apply pw_below_drewN | apply below_drew1) | exact HB.out)) hb); have n1_ := Aside0.mk (hbox); have n2_ := Aside0.mk ((by rw [hg]; exact (below_size (by repeat (first | (with_reducible first | exact HB.out | apply below_alloc | apply pw_below_drewN | apply below_drew1) | exact HB.out))) : w.heap.size ≤ gb154)); have n3_ := n2_; clear HB; have HB := n0_; have BK154 := n1_; have GW154 := n2_; have GE154 := n3_; clear n0_ n1_ n2_ n3_; clear hb hbox hg) | ((with_reducible refine gate_dst (N := 3) rfl ?_); refine box_event ?hg (N := 3) ?hd (cs := #[.int .i64 a1_0, .int .i64 a1_1, .string a1_2]) (t := 37) ?hr ?_; (case hd => rfl); (case hg => rfl); (case hr => first | (go_simp; done) | (go_simp; rfl)); intro gb155 hg w29 hbox hb; have n0_ := Aside0.mk (blk_below (g := gb154) (o := .cells #[.int .i64 a0_0, .int .i64 a0_1, .string a0_2] 37 (0, 0)) (by (with_reducible repeat (first | refine blk_drewN ?_ _ | refine blk_drew ?_ | refine blk_alloc ?_ _)); exact BK154.out) hb); have n1_ := Aside0.mk (below_step (by repeat (first | (with_reducible first | exact HB.out | apply below_alloc | apply pw_below_drewN | apply below_drew1 | refine below_set ?_ GE154.out) | exact HB.out)) hb); have n2_ := Aside0.mk (hbox); have n3_ := Aside0.mk ((by rw [hg]; exact (below_size (by repeat (first | (with_reducible first | exact HB.out | apply below_alloc | apply pw_below_drewN | apply below_drew1 | refine below_set ?_ GE154.out) | exact HB.out))) : w.heap.size ≤ gb155)); have n4_ := n3_; have n5_ := Aside0.mk ((by rw [hg]; exact Nat.ne_of_lt (blk_lt (g := gb154) (o := .cells #[.int .i64 a0_0, .int .i64 a0_1, .string a0_2] 37 (0, 0)) (by (with_reducible repeat (first | refine blk_drewN ?_ _ | refine blk_drew ?_ | refine blk_alloc ?_ _)); exact BK154.out)) : gb154 ≠ gb155)); have n6_ := Aside0.mk ((by rw [hg]; exact Nat.ne_of_gt (blk_lt (g := gb154) (o := .cells #[.int .i64 a0_0, .int .i64 a0_1, .string a0_2] 37 (0, 0)) (by (with_reducible repeat (first | refine blk_drewN ?_ _ | refine blk_drew ?_ | refine blk_alloc ?_ _)); exact BK154.out)) : gb155 ≠ gb154)); clear BK154; clear HB; have BK154 := n0_; have HB := n1_; have BK155 := n2_; have GW155 := n3_; have GE155 := n4_; have NB154_155 := n5_; have NB155_154 := n6_; clear n0_ n1_ n2_ n3_ n4_ n5_ n6_; clear hb hbox hg; have hnb30 := NB154_155.out; have hnc30 := NB155_154.out; have hcz31_0 : w29.cell? ⟨gb154, 0, none⟩ = some (.int .i64 a0_0) := (blk_cell BK154.out 0).trans rfl; have hcz31_1 : w29.cell? ⟨gb154, 1, none⟩ = some (.int .i64 a0_1) := (blk_cell BK154.out 1).trans rfl; have hcz31_2 : w29.cell? ⟨gb154, 2, none⟩ = some (.string a0_2) := (blk_cell BK154.out 2).trans rfl; have hfz31_0 := blk_frozen BK154.out 0; have hfz31_1 := blk_frozen BK154.out 1; have hfz31_2 := blk_frozen BK154.out 2; have hcz32_0 : w29.cell? ⟨gb155, 0, none⟩ = some (.int .i64 a1_0) := (blk_cell BK155.out 0).trans rfl; have hcz32_1 : w29.cell? ⟨gb155, 1, none⟩ = some (.int .i64 a1_1) := (blk_cell BK155.out 1).trans rfl; have hcz32_2 : w29.cell? ⟨gb155, 2, none⟩ = some (.string a1_2) := (blk_cell BK155.out 2).trans rfl; have hfz32_0 := blk_frozen BK155.out 0; have hfz32_1 := blk_frozen BK155.out 1; have hfz32_2 := blk_frozen BK155.out 2))
   go_ret
   exact ⟨by first | rfl | (simp [errW_none, errW_some] <;> rfl) | (simp [*, errW_none, errW_some] <;> rfl), by repeat (first | (with_reducible first | exact HB.out | apply below_alloc | apply pw_below_drewN | apply below_drew1 | refine below_set ?_ GE154.out | refine below_set ?_ GE155.out) | exact HB.out)⟩
def vellumref17_size.f (l0_0 : List (S37)) (l0_1 : List (S46)) (l0_2 : List (S37)) : Option (Int) := some (wrap64 ((wrap64 ((l0_0.length : Int) + (l0_1.length : Int))) + (l0_2.length : Int)))
set_option maxHeartbeats 8000000 in
set_option maxRecDepth 100000 in
theorem vellumref17_size.calls (A0_0 : Option Addr) (c0_0 : Nat) (l0_0 : List (S37)) (A0_1 : Option Addr) (c0_1 : Nat) (l0_1 : List (S46)) (A0_2 : Option Addr) (c0_2 : Nat) (l0_2 : List (S37)) (r : Int) (w : World) (hr0_0 : Kd.C k37 w A0_0 l0_0.length l0_0) (hc0_0 : l0_0.length ≤ c0_0) (hr0_1 : Kd.C k46 w A0_1 l0_1.length l0_1) (hc0_1 : l0_1.length ≤ c0_1) (hr0_2 : Kd.C k37 w A0_2 l0_2.length l0_2) (hc0_2 : l0_2.length ≤ c0_2) (h : vellumref17_size.f l0_0 l0_1 l0_2 = some r) :
  Calls Tryz.prog 29 #[.agg #[.slice A0_0 l0_0.length c0_0, .slice A0_1 l0_1.length c0_1, .slice A0_2 l0_2.length c0_2]] w fun e w' => e = .returned (.int .i64 r) ∧ Below w.heap.size w w' := by
 have hu25 := Tryz.underlying25
 have HR0_0 := Aside0.mk hr0_0
 have HC0_0 := Aside0.mk hc0_0
 clear hr0_0 hc0_0
 have HR0_1 := Aside0.mk hr0_1
 have HC0_1 := Aside0.mk hc0_1
 clear hr0_1 hc0_1
 have HR0_2 := Aside0.mk hr0_2
 have HC0_2 := Aside0.mk hc0_2
 clear hr0_2 hc0_2
 have HB := Aside0.mk (Below.refl w.heap.size w)
 have H : (some (wrap64 ((wrap64 ((l0_0.length : Int) + (l0_1.length : Int))) + (l0_2.length : Int)))) = some r := h
 clear h
 obtain rfl := Option.some.inj H
 go_enter Tryz.func29, Tryz.ntmps29
 go_wp2_with (first | ((with_reducible refine gate_dst (N := 1) rfl ?_); refine box_event ?hg (N := 1) ?hd (cs := #[.slice A0_0 l0_0.length c0_0, .slice A0_1 l0_1.length c0_1, .slice A0_2 l0_2.length c0_2]) (t := 25) ?hr ?_; (case hd => rfl); (case hg => rfl); (case hr => first | (go_simp; done) | (go_simp; rfl)); intro gb157 hg w2 hbox hb; have n0_ := Aside0.mk (below_step (by repeat (first | (with_reducible first | exact HB.out | apply below_alloc | apply pw_below_drewN | apply below_drew1) | exact HB.out)) hb); have n1_ := Aside0.mk (hbox); have n2_ := Aside0.mk ((by rw [hg]; exact (below_size (by repeat (first | (with_reducible first | exact HB.out | apply below_alloc | apply pw_below_drewN | apply below_drew1) | exact HB.out))) : w.heap.size ≤ gb157)); have n3_ := n2_; clear HB; have HB := n0_; have BK157 := n1_; have GW157 := n2_; have GE157 := n3_; clear n0_ n1_ n2_ n3_; clear hb hbox hg; have hcz3_0 : w2.cell? ⟨gb157, 0, none⟩ = some (.slice A0_0 l0_0.length c0_0) := (blk_cell BK157.out 0).trans rfl; have hcz3_1 : w2.cell? ⟨gb157, 1, none⟩ = some (.slice A0_1 l0_1.length c0_1) := (blk_cell BK157.out 1).trans rfl; have hcz3_2 : w2.cell? ⟨gb157, 2, none⟩ = some (.slice A0_2 l0_2.length c0_2) := (blk_cell BK157.out 2).trans rfl; have hfz3_0 := blk_frozen BK157.out 0; have hfz3_1 := blk_frozen BK157.out 1; have hfz3_2 := blk_frozen BK157.out 2))
 go_ret
 exact ⟨by first | rfl | (simp [errW_none, errW_some] <;> rfl) | (simp [*, errW_none, errW_some] <;> rfl), by repeat (first | (with_reducible first | exact HB.out | apply below_alloc | apply pw_below_drewN | apply below_drew1 | refine below_set ?_ GE157.out) | exact HB.out)⟩
def vellumref17_place.f (a0 : Int) (a1 : Int) : Option (Bool) := if a0 ≥ 0 then (some (decide (a1 ≥ (-1)))) else (some false)
set_option maxHeartbeats 8000000 in
set_option maxRecDepth 100000 in
theorem vellumref17_place.calls (a0 : Int) (a1 : Int) (r : Bool) (w : World) (h : vellumref17_place.f a0 a1 = some r) :
  Calls Tryz.prog 30 #[.int .i64 a0, .int .i64 a1] w fun e w' => e = .returned (.bool r) ∧ Drawn0 w w' := by
 have H : (if a0 ≥ 0 then (some (decide (a1 ≥ (-1)))) else (some false)) = some r := h
 clear h
 by_cases c3 : a0 ≥ 0
 ·rw [if_pos c3] at H
  have c3b0 : decide (0 ≤ a0) = true := decide_eq_true c3
  clear c3
  obtain rfl := Option.some.inj H
  go_enter Tryz.func30, Tryz.ntmps30
  go_wp2
  go_ret
  exact ⟨by first | rfl | (simp; done) | (simp [*]; done) | (simp [bool_ne_nil]; done) | (simp; exact bool_ne_nil _), by repeat (first | exact Drawn0.refl _ | apply Drawn0.step)⟩
 ·rw [if_neg c3] at H
  have c3b0 : decide (0 ≤ a0) = false := decide_eq_false c3
  clear c3
  obtain rfl := Option.some.inj H
  go_enter Tryz.func30, Tryz.ntmps30
  go_wp2
  go_ret
  exact ⟨by first | rfl | (simp; done) | (simp [*]; done) | (simp [bool_ne_nil]; done) | (simp; exact bool_ne_nil _), by repeat (first | exact Drawn0.refl _ | apply Drawn0.step)⟩
mutual
def vellumref17_Check.l0 : Nat → Int → List (S37) → List (S46) → List (S37) → Option (Int)
 | 0, _, _, _, _ => none
 | k + 1, x3, x159000, x159001, x159002 => if x3 < (x159000.length : Int) then (if 0 ≤ x3 then ((vellumref17_place.f ((rd_T37 x159000 x3).f0) ((rd_T37 x159000 x3).f1)).bind fun t162 => (if t162 = true then (vellumref17_Check.l0 k (wrap64 (x3 + 1)) x159000 x159001 x159002) else (some 1))) else (none)) else (vellumref17_Check.l1 k 0 x159000 x159001 x159002)
def vellumref17_Check.l1 : Nat → Int → List (S37) → List (S46) → List (S37) → Option (Int)
 | 0, _, _, _, _ => none
 | k + 1, x4, x159000, x159001, x159002 => if x4 < (x159001.length : Int) then (if 0 ≤ x4 then ((vellumref17_place.f ((rd_T46 x159001 x4).f0) ((rd_T46 x159001 x4).f1)).bind fun t165 => (if t165 = true then (vellumref17_Check.l1 k (wrap64 (x4 + 1)) x159000 x159001 x159002) else (some 1))) else (none)) else (vellumref17_Check.l2 k 0 x159000 x159001 x159002)
def vellumref17_Check.l2 : Nat → Int → List (S37) → List (S46) → List (S37) → Option (Int)
 | 0, _, _, _, _ => none
 | k + 1, x5, x159000, x159001, x159002 => if x5 < (x159002.length : Int) then (if 0 ≤ x5 then ((vellumref17_place.f ((rd_T37 x159002 x5).f0) ((rd_T37 x159002 x5).f1)).bind fun t168 => (if t168 = true then (vellumref17_Check.l2 k (wrap64 (x5 + 1)) x159000 x159001 x159002) else (some 1))) else (none)) else (some 0)
end
def vellumref17_Check.f (k : Nat) (l0_0 : List (S37)) (l0_1 : List (S46)) (l0_2 : List (S37)) : Option (Int) := (vellumref17_size.f l0_0 l0_1 l0_2).bind fun t159 => (if t159 > 65536 then (some 2) else (vellumref17_Check.l0 k 0 l0_0 l0_1 l0_2))
set_option maxHeartbeats 8000000 in
set_option maxRecDepth 100000 in
theorem vellumref17_Check.calls (k : Nat) (A0_0 : Option Addr) (c0_0 : Nat) (l0_0 : List (S37)) (A0_1 : Option Addr) (c0_1 : Nat) (l0_1 : List (S46)) (A0_2 : Option Addr) (c0_2 : Nat) (l0_2 : List (S37)) (r : Int) (w : World) (hr0_0 : Kd.C k37 w A0_0 l0_0.length l0_0) (hc0_0 : l0_0.length ≤ c0_0) (hr0_1 : Kd.C k46 w A0_1 l0_1.length l0_1) (hc0_1 : l0_1.length ≤ c0_1) (hr0_2 : Kd.C k37 w A0_2 l0_2.length l0_2) (hc0_2 : l0_2.length ≤ c0_2) (h : vellumref17_Check.f k l0_0 l0_1 l0_2 = some r) :
  Calls Tryz.prog 12 #[.agg #[.slice A0_0 l0_0.length c0_0, .slice A0_1 l0_1.length c0_1, .slice A0_2 l0_2.length c0_2]] w fun e w' => e = .returned (.int .i64 r) ∧ Below w.heap.size w w' := by
 have hu25 := Tryz.underlying25
 have HR0_0 := Aside0.mk hr0_0
 have HC0_0 := Aside0.mk hc0_0
 clear hr0_0 hc0_0
 have HR0_1 := Aside0.mk hr0_1
 have HC0_1 := Aside0.mk hc0_1
 clear hr0_1 hc0_1
 have HR0_2 := Aside0.mk hr0_2
 have HC0_2 := Aside0.mk hc0_2
 clear hr0_2 hc0_2
 have HB := Aside0.mk (Below.refl w.heap.size w)
 have H : ((vellumref17_size.f l0_0 l0_1 l0_2).bind fun t159 => (if t159 > 65536 then (some 2) else (vellumref17_Check.l0 k 0 l0_0 l0_1 l0_2))) = some r := h
 clear h
 replace H := Option.bind_eq_some_iff.mp H
 obtain ⟨t159, A20, H⟩ := H
 replace H : (if t159 > 65536 then (some 2) else (vellumref17_Check.l0 k 0 l0_0 l0_1 l0_2)) = some r := H
 have A2 := Aside0.mk A20
 clear A20
 by_cases c3 : t159 > 65536
 ·rw [if_pos c3] at H
  have c3b0 : decide (65536 < t159) = true := decide_eq_true c3
  clear c3
  obtain rfl := Option.some.inj H
  go_enter Tryz.func12, Tryz.ntmps12
  go_wp2_with (first | ((with_reducible refine gate_dst (N := 1) rfl ?_); refine box_event ?hg (N := 1) ?hd (cs := #[.slice A0_0 l0_0.length c0_0, .slice A0_1 l0_1.length c0_1, .slice A0_2 l0_2.length c0_2]) (t := 25) ?hr ?_; (case hd => rfl); (case hg => rfl); (case hr => first | (go_simp; done) | (go_simp; rfl)); intro gb158 hg w4 hbox hb; have n0_ := Aside0.mk (below_step (by repeat (first | (with_reducible first | exact HB.out | apply below_alloc | apply pw_below_drewN | apply below_drew1) | exact HB.out)) hb); have n1_ := Aside0.mk (hbox); have n2_ := Aside0.mk ((by rw [hg]; exact (below_size (by repeat (first | (with_reducible first | exact HB.out | apply below_alloc | apply pw_below_drewN | apply below_drew1) | exact HB.out))) : w.heap.size ≤ gb158)); have n3_ := n2_; clear HB; have HB := n0_; have BK158 := n1_; have GW158 := n2_; have GE158 := n3_; clear n0_ n1_ n2_ n3_; clear hb hbox hg; have hcz5_0 : w4.cell? ⟨gb158, 0, none⟩ = some (.slice A0_0 l0_0.length c0_0) := (blk_cell BK158.out 0).trans rfl; have hcz5_1 : w4.cell? ⟨gb158, 1, none⟩ = some (.slice A0_1 l0_1.length c0_1) := (blk_cell BK158.out 1).trans rfl; have hcz5_2 : w4.cell? ⟨gb158, 2, none⟩ = some (.slice A0_2 l0_2.length c0_2) := (blk_cell BK158.out 2).trans rfl; have hfz5_0 := blk_frozen BK158.out 0; have hfz5_1 := blk_frozen BK158.out 1; have hfz5_2 := blk_frozen BK158.out 2) | (go_at_call 29; (with_reducible refine (vellumref17_size.calls _ _ l0_0 _ _ l0_1 _ _ l0_2 t159 _ ?side1 ?side2 ?side3 ?side4 ?side5 ?side6 A2.out).mono ?_); (case side1 => repeat (first | exact (Kd.C_below HR0_0.out HB.out) | (with_reducible refine Kd.C_alloc ?_ _) | (with_reducible refine Kd.C_drewN ?_ _) | (with_reducible refine Kd.C_drew ?_))); (case side2 => exact HC0_0.out); (case side3 => repeat (first | exact (Kd.C_below HR0_1.out HB.out) | (with_reducible refine Kd.C_alloc ?_ _) | (with_reducible refine Kd.C_drewN ?_ _) | (with_reducible refine Kd.C_drew ?_))); (case side4 => exact HC0_1.out); (case side5 => repeat (first | exact (Kd.C_below HR0_2.out HB.out) | (with_reducible refine Kd.C_alloc ?_ _) | (with_reducible refine Kd.C_drewN ?_ _) | (with_reducible refine Kd.C_drew ?_))); (case side6 => exact HC0_2.out); rintro e w6 ⟨rfl, hb⟩; have n0_ := Aside0.mk (blk_below (g := gb158) (o := .cells #[.slice A0_0 l0_0.length c0_0, .slice A0_1 l0_1.length c0_1, .slice A0_2 l0_2.length c0_2] 25 (0, 0)) (by (with_reducible repeat (first | refine blk_drewN ?_ _ | refine blk_drew ?_ | refine blk_alloc ?_ _)); exact BK158.out) hb); have n1_ := Aside0.mk (below_step (by repeat (first | (with_reducible first | exact HB.out | apply below_alloc | apply pw_below_drewN | apply below_drew1 | refine below_set ?_ GE158.out) | exact HB.out)) hb); clear BK158; clear HB; have BK158 := n0_; have HB := n1_; clear n0_ n1_; (try clear hb); (try clear hb2); (try clear hk); (try clear hi)))
  repeat (go_quiet (first | ((with_reducible refine gate_dst (N := 1) rfl ?_); refine box_event ?hg (N := 1) ?hd (cs := #[.slice A0_0 l0_0.length c0_0, .slice A0_1 l0_1.length c0_1, .slice A0_2 l0_2.length c0_2]) (t := 25) ?hr ?_; (case hd => rfl); (case hg => rfl); (case hr => first | (go_simp; done) | (go_simp; rfl)); intro gb158 hg w4 hbox hb; have n0_ := Aside0.mk (below_step (by repeat (first | (with_reducible first | exact HB.out | apply below_alloc | apply pw_below_drewN | apply below_drew1) | exact HB.out)) hb); have n1_ := Aside0.mk (hbox); have n2_ := Aside0.mk ((by rw [hg]; exact (below_size (by repeat (first | (with_reducible first | exact HB.out | apply below_alloc | apply pw_below_drewN | apply below_drew1) | exact HB.out))) : w.heap.size ≤ gb158)); have n3_ := n2_; clear HB; have HB := n0_; have BK158 := n1_; have GW158 := n2_; have GE158 := n3_; clear n0_ n1_ n2_ n3_; clear hb hbox hg; have hcz5_0 : w4.cell? ⟨gb158, 0, none⟩ = some (.slice A0_0 l0_0.length c0_0) := (blk_cell BK158.out 0).trans rfl; have hcz5_1 : w4.cell? ⟨gb158, 1, none⟩ = some (.slice A0_1 l0_1.length c0_1) := (blk_cell BK158.out 1).trans rfl; have hcz5_2 : w4.cell? ⟨gb158, 2, none⟩ = some (.slice A0_2 l0_2.length c0_2) := (blk_cell BK158.out 2).trans rfl; have hfz5_0 := blk_frozen BK158.out 0; have hfz5_1 := blk_frozen BK158.out 1; have hfz5_2 := blk_frozen BK158.out 2) | (go_at_call 29; (with_reducible refine (vellumref17_size.calls _ _ l0_0 _ _ l0_1 _ _ l0_2 t159 _ ?side1 ?side2 ?side3 ?side4 ?side5 ?side6 A2.out).mono ?_); (case side1 => repeat (first | exact (Kd.C_below HR0_0.out HB.out) | (with_reducible refine Kd.C_alloc ?_ _) | (with_reducible refine Kd.C_drewN ?_ _) | (with_reducible refine Kd.C_drew ?_))); (case side2 => exact HC0_0.out); (case side3 => repeat (first | exact (Kd.C_below HR0_1.out HB.out) | (with_reducible refine Kd.C_alloc ?_ _) | (with_reducible refine Kd.C_drewN ?_ _) | (with_reducible refine Kd.C_drew ?_))); (case side4 => exact HC0_1.out); (case side5 => repeat (first | exact (Kd.C_below HR0_2.out HB.out) | (with_reducible refine Kd.C_alloc ?_ _) | (with_reducible refine Kd.C_drewN ?_ _) | (with_reducible refine Kd.C_drew ?_))); (case side6 => exact HC0_2.out); rintro e w6 ⟨rfl, hb⟩; have n0_ := Aside0.mk (blk_below (g := gb158) (o := .cells #[.slice A0_0 l0_0.length c0_0, .slice A0_1 l0_1.length c0_1, .slice A0_2 l0_2.length c0_2] 25 (0, 0)) (by (with_reducible repeat (first | refine blk_drewN ?_ _ | refine blk_drew ?_ | refine blk_alloc ?_ _)); exact BK158.out) hb); have n1_ := Aside0.mk (below_step (by repeat (first | (with_reducible first | exact HB.out | apply below_alloc | apply pw_below_drewN | apply below_drew1 | refine below_set ?_ GE158.out) | exact HB.out)) hb); clear BK158; clear HB; have BK158 := n0_; have HB := n1_; clear n0_ n1_; (try clear hb); (try clear hb2); (try clear hk); (try clear hi))); try go_wp2_with (first | ((with_reducible refine gate_dst (N := 1) rfl ?_); refine box_event ?hg (N := 1) ?hd (cs := #[.slice A0_0 l0_0.length c0_0, .slice A0_1 l0_1.length c0_1, .slice A0_2 l0_2.length c0_2]) (t := 25) ?hr ?_; (case hd => rfl); (case hg => rfl); (case hr => first | (go_simp; done) | (go_simp; rfl)); intro gb158 hg w4 hbox hb; have n0_ := Aside0.mk (below_step (by repeat (first | (with_reducible first | exact HB.out | apply below_alloc | apply pw_below_drewN | apply below_drew1) | exact HB.out)) hb); have n1_ := Aside0.mk (hbox); have n2_ := Aside0.mk ((by rw [hg]; exact (below_size (by repeat (first | (with_reducible first | exact HB.out | apply below_alloc | apply pw_below_drewN | apply below_drew1) | exact HB.out))) : w.heap.size ≤ gb158)); have n3_ := n2_; clear HB; have HB := n0_; have BK158 := n1_; have GW158 := n2_; have GE158 := n3_; clear n0_ n1_ n2_ n3_; clear hb hbox hg; have hcz5_0 : w4.cell? ⟨gb158, 0, none⟩ = some (.slice A0_0 l0_0.length c0_0) := (blk_cell BK158.out 0).trans rfl; have hcz5_1 : w4.cell? ⟨gb158, 1, none⟩ = some (.slice A0_1 l0_1.length c0_1) := (blk_cell BK158.out 1).trans rfl; have hcz5_2 : w4.cell? ⟨gb158, 2, none⟩ = some (.slice A0_2 l0_2.length c0_2) := (blk_cell BK158.out 2).trans rfl; have hfz5_0 := blk_frozen BK158.out 0; have hfz5_1 := blk_frozen BK158.out 1; have hfz5_2 := blk_frozen BK158.out 2) | (go_at_call 29; (with_reducible refine (vellumref17_size.calls _ _ l0_0 _ _ l0_1 _ _ l0_2 t159 _ ?side1 ?side2 ?side3 ?side4 ?side5 ?side6 A2.out).mono ?_); (case side1 => repeat (first | exact (Kd.C_below HR0_0.out HB.out) | (with_reducible refine Kd.C_alloc ?_ _) | (with_reducible refine Kd.C_drewN ?_ _) | (with_reducible refine Kd.C_drew ?_))); (case side2 => exact HC0_0.out); (case side3 => repeat (first | exact (Kd.C_below HR0_1.out HB.out) | (with_reducible refine Kd.C_alloc ?_ _) | (with_reducible refine Kd.C_drewN ?_ _) | (with_reducible refine Kd.C_drew ?_))); (case side4 => exact HC0_1.out); (case side5 => repeat (first | exact (Kd.C_below HR0_2.out HB.out) | (with_reducible refine Kd.C_alloc ?_ _) | (with_reducible refine Kd.C_drewN ?_ _) | (with_reducible refine Kd.C_drew ?_))); (case side6 => exact HC0_2.out); rintro e w6 ⟨rfl, hb⟩; have n0_ := Aside0.mk (blk_below (g := gb158) (o := .cells #[.slice A0_0 l0_0.length c0_0, .slice A0_1 l0_1.length c0_1, .slice A0_2 l0_2.length c0_2] 25 (0, 0)) (by (with_reducible repeat (first | refine blk_drewN ?_ _ | refine blk_drew ?_ | refine blk_alloc ?_ _)); exact BK158.out) hb); have n1_ := Aside0.mk (below_step (by repeat (first | (with_reducible first | exact HB.out | apply below_alloc | apply pw_below_drewN | apply below_drew1 | refine below_set ?_ GE158.out) | exact HB.out)) hb); clear BK158; clear HB; have BK158 := n0_; have HB := n1_; clear n0_ n1_; (try clear hb); (try clear hb2); (try clear hk); (try clear hi))))
  go_ret
  exact ⟨by first | rfl | (simp [errW_none, errW_some] <;> rfl) | (simp [*, errW_none, errW_some] <;> rfl), by repeat (first | (with_reducible first | exact HB.out | apply below_alloc | apply pw_below_drewN | apply below_drew1 | refine below_set ?_ GE158.out) | exact HB.out)⟩
 ·rw [if_neg c3] at H
  have c3b0 : decide (65536 < t159) = false := decide_eq_false c3
  clear c3
  have H' := Aside0.mk H
  clear H
  go_enter Tryz.func12, Tryz.ntmps12
  go_wp2_with (first | ((with_reducible refine gate_dst (N := 1) rfl ?_); refine box_event ?hg (N := 1) ?hd (cs := #[.slice A0_0 l0_0.length c0_0, .slice A0_1 l0_1.length c0_1, .slice A0_2 l0_2.length c0_2]) (t := 25) ?hr ?_; (case hd => rfl); (case hg => rfl); (case hr => first | (go_simp; done) | (go_simp; rfl)); intro gb158 hg w7 hbox hb; have n0_ := Aside0.mk (below_step (by repeat (first | (with_reducible first | exact HB.out | apply below_alloc | apply pw_below_drewN | apply below_drew1) | exact HB.out)) hb); have n1_ := Aside0.mk (hbox); have n2_ := Aside0.mk ((by rw [hg]; exact (below_size (by repeat (first | (with_reducible first | exact HB.out | apply below_alloc | apply pw_below_drewN | apply below_drew1) | exact HB.out))) : w.heap.size ≤ gb158)); have n3_ := n2_; clear HB; have HB := n0_; have BK158 := n1_; have GW158 := n2_; have GE158 := n3_; clear n0_ n1_ n2_ n3_; clear hb hbox hg; have hcz8_0 : w7.cell? ⟨gb158, 0, none⟩ = some (.slice A0_0 l0_0.length c0_0) := (blk_cell BK158.out 0).trans rfl; have hcz8_1 : w7.cell? ⟨gb158, 1, none⟩ = some (.slice A0_1 l0_1.length c0_1) := (blk_cell BK158.out 1).trans rfl; have hcz8_2 : w7.cell? ⟨gb158, 2, none⟩ = some (.slice A0_2 l0_2.length c0_2) := (blk_cell BK158.out 2).trans rfl; have hfz8_0 := blk_frozen BK158.out 0; have hfz8_1 := blk_frozen BK158.out 1; have hfz8_2 := blk_frozen BK158.out 2) | (go_at_call 29; (with_reducible refine (vellumref17_size.calls _ _ l0_0 _ _ l0_1 _ _ l0_2 t159 _ ?side1 ?side2 ?side3 ?side4 ?side5 ?side6 A2.out).mono ?_); (case side1 => repeat (first | exact (Kd.C_below HR0_0.out HB.out) | (with_reducible refine Kd.C_alloc ?_ _) | (with_reducible refine Kd.C_drewN ?_ _) | (with_reducible refine Kd.C_drew ?_))); (case side2 => exact HC0_0.out); (case side3 => repeat (first | exact (Kd.C_below HR0_1.out HB.out) | (with_reducible refine Kd.C_alloc ?_ _) | (with_reducible refine Kd.C_drewN ?_ _) | (with_reducible refine Kd.C_drew ?_))); (case side4 => exact HC0_1.out); (case side5 => repeat (first | exact (Kd.C_below HR0_2.out HB.out) | (with_reducible refine Kd.C_alloc ?_ _) | (with_reducible refine Kd.C_drewN ?_ _) | (with_reducible refine Kd.C_drew ?_))); (case side6 => exact HC0_2.out); rintro e w9 ⟨rfl, hb⟩; have n0_ := Aside0.mk (blk_below (g := gb158) (o := .cells #[.slice A0_0 l0_0.length c0_0, .slice A0_1 l0_1.length c0_1, .slice A0_2 l0_2.length c0_2] 25 (0, 0)) (by (with_reducible repeat (first | refine blk_drewN ?_ _ | refine blk_drew ?_ | refine blk_alloc ?_ _)); exact BK158.out) hb); have n1_ := Aside0.mk (below_step (by repeat (first | (with_reducible first | exact HB.out | apply below_alloc | apply pw_below_drewN | apply below_drew1 | refine below_set ?_ GE158.out) | exact HB.out)) hb); clear BK158; clear HB; have BK158 := n0_; have HB := n1_; clear n0_ n1_; (try clear hb); (try clear hb2); (try clear hk); (try clear hi)))
  repeat (go_quiet (first | ((with_reducible refine gate_dst (N := 1) rfl ?_); refine box_event ?hg (N := 1) ?hd (cs := #[.slice A0_0 l0_0.length c0_0, .slice A0_1 l0_1.length c0_1, .slice A0_2 l0_2.length c0_2]) (t := 25) ?hr ?_; (case hd => rfl); (case hg => rfl); (case hr => first | (go_simp; done) | (go_simp; rfl)); intro gb158 hg w7 hbox hb; have n0_ := Aside0.mk (below_step (by repeat (first | (with_reducible first | exact HB.out | apply below_alloc | apply pw_below_drewN | apply below_drew1) | exact HB.out)) hb); have n1_ := Aside0.mk (hbox); have n2_ := Aside0.mk ((by rw [hg]; exact (below_size (by repeat (first | (with_reducible first | exact HB.out | apply below_alloc | apply pw_below_drewN | apply below_drew1) | exact HB.out))) : w.heap.size ≤ gb158)); have n3_ := n2_; clear HB; have HB := n0_; have BK158 := n1_; have GW158 := n2_; have GE158 := n3_; clear n0_ n1_ n2_ n3_; clear hb hbox hg; have hcz8_0 : w7.cell? ⟨gb158, 0, none⟩ = some (.slice A0_0 l0_0.length c0_0) := (blk_cell BK158.out 0).trans rfl; have hcz8_1 : w7.cell? ⟨gb158, 1, none⟩ = some (.slice A0_1 l0_1.length c0_1) := (blk_cell BK158.out 1).trans rfl; have hcz8_2 : w7.cell? ⟨gb158, 2, none⟩ = some (.slice A0_2 l0_2.length c0_2) := (blk_cell BK158.out 2).trans rfl; have hfz8_0 := blk_frozen BK158.out 0; have hfz8_1 := blk_frozen BK158.out 1; have hfz8_2 := blk_frozen BK158.out 2) | (go_at_call 29; (with_reducible refine (vellumref17_size.calls _ _ l0_0 _ _ l0_1 _ _ l0_2 t159 _ ?side1 ?side2 ?side3 ?side4 ?side5 ?side6 A2.out).mono ?_); (case side1 => repeat (first | exact (Kd.C_below HR0_0.out HB.out) | (with_reducible refine Kd.C_alloc ?_ _) | (with_reducible refine Kd.C_drewN ?_ _) | (with_reducible refine Kd.C_drew ?_))); (case side2 => exact HC0_0.out); (case side3 => repeat (first | exact (Kd.C_below HR0_1.out HB.out) | (with_reducible refine Kd.C_alloc ?_ _) | (with_reducible refine Kd.C_drewN ?_ _) | (with_reducible refine Kd.C_drew ?_))); (case side4 => exact HC0_1.out); (case side5 => repeat (first | exact (Kd.C_below HR0_2.out HB.out) | (with_reducible refine Kd.C_alloc ?_ _) | (with_reducible refine Kd.C_drewN ?_ _) | (with_reducible refine Kd.C_drew ?_))); (case side6 => exact HC0_2.out); rintro e w9 ⟨rfl, hb⟩; have n0_ := Aside0.mk (blk_below (g := gb158) (o := .cells #[.slice A0_0 l0_0.length c0_0, .slice A0_1 l0_1.length c0_1, .slice A0_2 l0_2.length c0_2] 25 (0, 0)) (by (with_reducible repeat (first | refine blk_drewN ?_ _ | refine blk_drew ?_ | refine blk_alloc ?_ _)); exact BK158.out) hb); have n1_ := Aside0.mk (below_step (by repeat (first | (with_reducible first | exact HB.out | apply below_alloc | apply pw_below_drewN | apply below_drew1 | refine below_set ?_ GE158.out) | exact HB.out)) hb); clear BK158; clear HB; have BK158 := n0_; have HB := n1_; clear n0_ n1_; (try clear hb); (try clear hb2); (try clear hk); (try clear hi))); try go_wp2_with (first | ((with_reducible refine gate_dst (N := 1) rfl ?_); refine box_event ?hg (N := 1) ?hd (cs := #[.slice A0_0 l0_0.length c0_0, .slice A0_1 l0_1.length c0_1, .slice A0_2 l0_2.length c0_2]) (t := 25) ?hr ?_; (case hd => rfl); (case hg => rfl); (case hr => first | (go_simp; done) | (go_simp; rfl)); intro gb158 hg w7 hbox hb; have n0_ := Aside0.mk (below_step (by repeat (first | (with_reducible first | exact HB.out | apply below_alloc | apply pw_below_drewN | apply below_drew1) | exact HB.out)) hb); have n1_ := Aside0.mk (hbox); have n2_ := Aside0.mk ((by rw [hg]; exact (below_size (by repeat (first | (with_reducible first | exact HB.out | apply below_alloc | apply pw_below_drewN | apply below_drew1) | exact HB.out))) : w.heap.size ≤ gb158)); have n3_ := n2_; clear HB; have HB := n0_; have BK158 := n1_; have GW158 := n2_; have GE158 := n3_; clear n0_ n1_ n2_ n3_; clear hb hbox hg; have hcz8_0 : w7.cell? ⟨gb158, 0, none⟩ = some (.slice A0_0 l0_0.length c0_0) := (blk_cell BK158.out 0).trans rfl; have hcz8_1 : w7.cell? ⟨gb158, 1, none⟩ = some (.slice A0_1 l0_1.length c0_1) := (blk_cell BK158.out 1).trans rfl; have hcz8_2 : w7.cell? ⟨gb158, 2, none⟩ = some (.slice A0_2 l0_2.length c0_2) := (blk_cell BK158.out 2).trans rfl; have hfz8_0 := blk_frozen BK158.out 0; have hfz8_1 := blk_frozen BK158.out 1; have hfz8_2 := blk_frozen BK158.out 2) | (go_at_call 29; (with_reducible refine (vellumref17_size.calls _ _ l0_0 _ _ l0_1 _ _ l0_2 t159 _ ?side1 ?side2 ?side3 ?side4 ?side5 ?side6 A2.out).mono ?_); (case side1 => repeat (first | exact (Kd.C_below HR0_0.out HB.out) | (with_reducible refine Kd.C_alloc ?_ _) | (with_reducible refine Kd.C_drewN ?_ _) | (with_reducible refine Kd.C_drew ?_))); (case side2 => exact HC0_0.out); (case side3 => repeat (first | exact (Kd.C_below HR0_1.out HB.out) | (with_reducible refine Kd.C_alloc ?_ _) | (with_reducible refine Kd.C_drewN ?_ _) | (with_reducible refine Kd.C_drew ?_))); (case side4 => exact HC0_1.out); (case side5 => repeat (first | exact (Kd.C_below HR0_2.out HB.out) | (with_reducible refine Kd.C_alloc ?_ _) | (with_reducible refine Kd.C_drewN ?_ _) | (with_reducible refine Kd.C_drew ?_))); (case side6 => exact HC0_2.out); rintro e w9 ⟨rfl, hb⟩; have n0_ := Aside0.mk (blk_below (g := gb158) (o := .cells #[.slice A0_0 l0_0.length c0_0, .slice A0_1 l0_1.length c0_1, .slice A0_2 l0_2.length c0_2] 25 (0, 0)) (by (with_reducible repeat (first | refine blk_drewN ?_ _ | refine blk_drew ?_ | refine blk_alloc ?_ _)); exact BK158.out) hb); have n1_ := Aside0.mk (below_step (by repeat (first | (with_reducible first | exact HB.out | apply below_alloc | apply pw_below_drewN | apply below_drew1 | refine below_set ?_ GE158.out) | exact HB.out)) hb); clear BK158; clear HB; have BK158 := n0_; have HB := n1_; clear n0_ n1_; (try clear hb); (try clear hb2); (try clear hk); (try clear hi))))
  go_loopg [3] k (fun kq v3 w' => ∃ (x3_1 : Int), v3 = .int .i64 x3_1 ∧ Aside0 (vellumref17_Check.l0 kq x3_1 l0_0 l0_1 l0_2 = some r) ∧ Aside0 (kq ≤ k) ∧ Aside0 (w'.heap[gb158]? = some (.cells #[(.slice A0_0 l0_0.length c0_0), (.slice A0_1 l0_1.length c0_1), (.slice A0_2 l0_2.length c0_2)] 25 (0, 0))) ∧ Aside0 (Below w.heap.size w w'))
  case atStart => exact ⟨(0), (by first | rfl | (simp; done) | (simp [*]; done) | (simp [bool_ne_nil]; done) | (simp; exact bool_ne_nil _)), H', ⟨Nat.le_refl _⟩, ⟨by (with_reducible repeat (first | refine blk_drewN ?_ _ | refine blk_drew ?_ | refine blk_alloc ?_ _)); exact BK158.out⟩, ⟨by repeat (first | (with_reducible first | exact HB.out | apply below_alloc | apply pw_below_drewN | apply below_drew1 | refine below_set ?_ GE158.out) | exact HB.out)⟩⟩
  case round =>
   clear H'
   (try clear c1); (try clear p2); (try clear c3); (try clear c3b0); (try clear hcz5_0); (try clear hcz5_1); (try clear hcz5_2); (try clear hcz8_0); (try clear hcz8_1); (try clear hcz8_2); (try clear hfz5_0); (try clear hfz5_1); (try clear hfz5_2); (try clear hfz8_0); (try clear hfz8_1); (try clear hfz8_2)
   obtain ⟨x3_1, rfl, HA, HK1, BK158, HB⟩ := hrel
   cases gk with
   | zero => exact absurd HA.out (by simp [vellumref17_Check.l0])
   | succ k1 =>
    have H := HA.out
    clear HA
    simp only [vellumref17_Check.l0] at H
    by_cases c10 : x3_1 < (l0_0.length : Int)
    ·rw [if_pos c10] at H
     have c10b0 : decide (x3_1 < (l0_0.length : Int)) = true := decide_eq_true c10
     clear c10
     by_cases c11 : 0 ≤ x3_1
     ·rw [if_pos c11] at H
      have c11b0 : decide (0 ≤ x3_1) = true := decide_eq_true c11
      clear c11
      replace H := Option.bind_eq_some_iff.mp H
      obtain ⟨t162, A120, H⟩ := H
      replace H : (if t162 = true then (vellumref17_Check.l0 k1 (wrap64 (x3_1 + 1)) l0_0 l0_1 l0_2) else (some 1)) = some r := H
      have A12 := Aside0.mk A120
      clear A120
      by_cases c13 : t162 = true
      ·subst c13
       have H1 : (vellumref17_Check.l0 k1 (wrap64 (x3_1 + 1)) l0_0 l0_1 l0_2) = some r := by rw [if_pos rfl] at H; exact H
       clear H
       have H := H1
       clear H1
       have H' := Aside0.mk H
       clear H
       have hcz14_0 : wr.cell? ⟨gb158, 0, none⟩ = some (.slice A0_0 l0_0.length c0_0) := (blk_cell BK158.out 0).trans rfl
       have hcz14_1 : wr.cell? ⟨gb158, 1, none⟩ = some (.slice A0_1 l0_1.length c0_1) := (blk_cell BK158.out 1).trans rfl
       have hcz14_2 : wr.cell? ⟨gb158, 2, none⟩ = some (.slice A0_2 l0_2.length c0_2) := (blk_cell BK158.out 2).trans rfl
       have hfz14_0 := blk_frozen BK158.out 0
       have hfz14_1 := blk_frozen BK158.out 1
       have hfz14_2 := blk_frozen BK158.out 2
       have p160 : 0 ≤ (x3_1 : Int) := of_decide_eq_true (by first | (with_reducible assumption) | assumption)
       have q160 : x3_1 < (l0_0.length : Int) := of_decide_eq_true (by first | (with_reducible assumption) | assumption)
       obtain ⟨ad160, e160, hx160_0, hx160_1, hx160_2⟩ := at_T37 HR0_0.out x3_1 p160 q160
       cases e160
       replace hx160_0 := (HB.out.cell (World.block_lt_of_cell? w _ hx160_0)).trans hx160_0
       replace hx160_1 := (HB.out.cell (World.block_lt_of_cell? w _ hx160_1)).trans hx160_1
       replace hx160_2 := (HB.out.cell (World.block_lt_of_cell? w _ hx160_2)).trans hx160_2
       replace p160 := eq_true p160
       replace q160 := eq_true q160
       have p161 : 0 ≤ (x3_1 : Int) := of_decide_eq_true (by first | (with_reducible assumption) | assumption)
       have q161 : x3_1 < (l0_0.length : Int) := of_decide_eq_true (by first | (with_reducible assumption) | assumption)
       obtain ⟨ad161, e161, hx161_0, hx161_1, hx161_2⟩ := at_T37 HR0_0.out x3_1 p161 q161
       obtain rfl : ad160 = ad161 := (by injection e161)
       replace hx161_0 := (HB.out.cell (World.block_lt_of_cell? w _ hx161_0)).trans hx161_0
       replace hx161_1 := (HB.out.cell (World.block_lt_of_cell? w _ hx161_1)).trans hx161_1
       replace hx161_2 := (HB.out.cell (World.block_lt_of_cell? w _ hx161_2)).trans hx161_2
       replace p161 := eq_true p161
       replace q161 := eq_true q161
       go_wp2_with (first | (go_at_call 30; (with_reducible refine (vellumref17_place.calls ((rd_T37 l0_0 x3_1).f0) ((rd_T37 l0_0 x3_1).f1) true _ A12.out).mono ?_); rintro e w' ⟨rfl, ⟨nd, rfl⟩⟩; (try first | exact ⟨rfl, _, World.drewN_drewN _ _ _⟩ | exact ⟨rfl, _, Eq.trans (World.drewN_drewN _ _ _) (congrArg (World.drewN _) (Nat.add_assoc _ _ _))⟩)))
       repeat (go_quiet (first | (go_at_call 30; (with_reducible refine (vellumref17_place.calls ((rd_T37 l0_0 x3_1).f0) ((rd_T37 l0_0 x3_1).f1) true _ A12.out).mono ?_); rintro e w' ⟨rfl, ⟨nd, rfl⟩⟩; (try first | exact ⟨rfl, _, World.drewN_drewN _ _ _⟩ | exact ⟨rfl, _, Eq.trans (World.drewN_drewN _ _ _) (congrArg (World.drewN _) (Nat.add_assoc _ _ _))⟩))); try go_wp2_with (first | (go_at_call 30; (with_reducible refine (vellumref17_place.calls ((rd_T37 l0_0 x3_1).f0) ((rd_T37 l0_0 x3_1).f1) true _ A12.out).mono ?_); rintro e w' ⟨rfl, ⟨nd, rfl⟩⟩; (try first | exact ⟨rfl, _, World.drewN_drewN _ _ _⟩ | exact ⟨rfl, _, Eq.trans (World.drewN_drewN _ _ _) (congrArg (World.drewN _) (Nat.add_assoc _ _ _))⟩))))
       go_roundg k1
       case measure => have := HK1.out; omega
       case rel => exact ⟨(wrap64 (x3_1 + 1)), (by first | rfl | (simp; done) | (simp [*]; done) | (simp [bool_ne_nil]; done) | (simp; exact bool_ne_nil _)), H', ⟨by have := HK1.out; omega⟩, ⟨by (with_reducible repeat (first | refine blk_drewN ?_ _ | refine blk_drew ?_ | refine blk_alloc ?_ _)); exact BK158.out⟩, ⟨by repeat (first | (with_reducible first | exact HB.out | apply below_alloc | apply pw_below_drewN | apply below_drew1 | refine below_set ?_ GE158.out) | exact HB.out)⟩⟩
      ·replace c13 := Bool.eq_false_iff.mpr c13
       subst c13
       have H1 : (some 1) = some r := by rw [if_neg (show ¬ (false = true) by decide)] at H; exact H
       clear H
       have H := H1
       clear H1
       obtain rfl := Option.some.inj H
       have hcz15_0 : wr.cell? ⟨gb158, 0, none⟩ = some (.slice A0_0 l0_0.length c0_0) := (blk_cell BK158.out 0).trans rfl
       have hcz15_1 : wr.cell? ⟨gb158, 1, none⟩ = some (.slice A0_1 l0_1.length c0_1) := (blk_cell BK158.out 1).trans rfl
       have hcz15_2 : wr.cell? ⟨gb158, 2, none⟩ = some (.slice A0_2 l0_2.length c0_2) := (blk_cell BK158.out 2).trans rfl
       have hfz15_0 := blk_frozen BK158.out 0
       have hfz15_1 := blk_frozen BK158.out 1
       have hfz15_2 := blk_frozen BK158.out 2
       have p160 : 0 ≤ (x3_1 : Int) := of_decide_eq_true (by first | (with_reducible assumption) | assumption)
       have q160 : x3_1 < (l0_0.length : Int) := of_decide_eq_true (by first | (with_reducible assumption) | assumption)
       obtain ⟨ad160, e160, hx160_0, hx160_1, hx160_2⟩ := at_T37 HR0_0.out x3_1 p160 q160
       cases e160
       replace hx160_0 := (HB.out.cell (World.block_lt_of_cell? w _ hx160_0)).trans hx160_0
       replace hx160_1 := (HB.out.cell (World.block_lt_of_cell? w _ hx160_1)).trans hx160_1
       replace hx160_2 := (HB.out.cell (World.block_lt_of_cell? w _ hx160_2)).trans hx160_2
       replace p160 := eq_true p160
       replace q160 := eq_true q160
       have p161 : 0 ≤ (x3_1 : Int) := of_decide_eq_true (by first | (with_reducible assumption) | assumption)
       have q161 : x3_1 < (l0_0.length : Int) := of_decide_eq_true (by first | (with_reducible assumption) | assumption)
       obtain ⟨ad161, e161, hx161_0, hx161_1, hx161_2⟩ := at_T37 HR0_0.out x3_1 p161 q161
       obtain rfl : ad160 = ad161 := (by injection e161)
       replace hx161_0 := (HB.out.cell (World.block_lt_of_cell? w _ hx161_0)).trans hx161_0
       replace hx161_1 := (HB.out.cell (World.block_lt_of_cell? w _ hx161_1)).trans hx161_1
       replace hx161_2 := (HB.out.cell (World.block_lt_of_cell? w _ hx161_2)).trans hx161_2
       replace p161 := eq_true p161
       replace q161 := eq_true q161
       go_wp2_with (first | (go_at_call 30; (with_reducible refine (vellumref17_place.calls ((rd_T37 l0_0 x3_1).f0) ((rd_T37 l0_0 x3_1).f1) false _ A12.out).mono ?_); rintro e w' ⟨rfl, ⟨nd, rfl⟩⟩; (try first | exact ⟨rfl, _, World.drewN_drewN _ _ _⟩ | exact ⟨rfl, _, Eq.trans (World.drewN_drewN _ _ _) (congrArg (World.drewN _) (Nat.add_assoc _ _ _))⟩)))
       repeat (go_quiet (first | (go_at_call 30; (with_reducible refine (vellumref17_place.calls ((rd_T37 l0_0 x3_1).f0) ((rd_T37 l0_0 x3_1).f1) false _ A12.out).mono ?_); rintro e w' ⟨rfl, ⟨nd, rfl⟩⟩; (try first | exact ⟨rfl, _, World.drewN_drewN _ _ _⟩ | exact ⟨rfl, _, Eq.trans (World.drewN_drewN _ _ _) (congrArg (World.drewN _) (Nat.add_assoc _ _ _))⟩))); try go_wp2_with (first | (go_at_call 30; (with_reducible refine (vellumref17_place.calls ((rd_T37 l0_0 x3_1).f0) ((rd_T37 l0_0 x3_1).f1) false _ A12.out).mono ?_); rintro e w' ⟨rfl, ⟨nd, rfl⟩⟩; (try first | exact ⟨rfl, _, World.drewN_drewN _ _ _⟩ | exact ⟨rfl, _, Eq.trans (World.drewN_drewN _ _ _) (congrArg (World.drewN _) (Nat.add_assoc _ _ _))⟩))))
       go_ret
       exact ⟨by first | rfl | (simp [errW_none, errW_some] <;> rfl) | (simp [*, errW_none, errW_some] <;> rfl), by repeat (first | (with_reducible first | exact HB.out | apply below_alloc | apply pw_below_drewN | apply below_drew1 | refine below_set ?_ GE158.out) | exact HB.out)⟩
     ·rw [if_neg c11] at H
      exact absurd H (by simp)
    ·rw [if_neg c10] at H
     have c10b0 : decide (x3_1 < (l0_0.length : Int)) = false := decide_eq_false c10
     clear c10
     have H' := Aside0.mk H
     clear H
     have hcz16_0 : wr.cell? ⟨gb158, 0, none⟩ = some (.slice A0_0 l0_0.length c0_0) := (blk_cell BK158.out 0).trans rfl
     have hcz16_1 : wr.cell? ⟨gb158, 1, none⟩ = some (.slice A0_1 l0_1.length c0_1) := (blk_cell BK158.out 1).trans rfl
     have hcz16_2 : wr.cell? ⟨gb158, 2, none⟩ = some (.slice A0_2 l0_2.length c0_2) := (blk_cell BK158.out 2).trans rfl
     have hfz16_0 := blk_frozen BK158.out 0
     have hfz16_1 := blk_frozen BK158.out 1
     have hfz16_2 := blk_frozen BK158.out 2
     go_wp2
     repeat (go_quiet (fail); try go_wp2)
     go_loopg [4] k1 (fun kq v4 w' => ∃ (x4_2 : Int), v4 = .int .i64 x4_2 ∧ Aside0 (vellumref17_Check.l1 kq x4_2 l0_0 l0_1 l0_2 = some r) ∧ Aside0 (kq ≤ k1) ∧ Aside0 (w'.heap[gb158]? = some (.cells #[(.slice A0_0 l0_0.length c0_0), (.slice A0_1 l0_1.length c0_1), (.slice A0_2 l0_2.length c0_2)] 25 (0, 0))) ∧ Aside0 (Below w.heap.size w w'))
     case atStart => exact ⟨(0), (by first | rfl | (simp; done) | (simp [*]; done) | (simp [bool_ne_nil]; done) | (simp; exact bool_ne_nil _)), H', ⟨Nat.le_refl _⟩, ⟨by (with_reducible repeat (first | refine blk_drewN ?_ _ | refine blk_drew ?_ | refine blk_alloc ?_ _)); exact BK158.out⟩, ⟨by repeat (first | (with_reducible first | exact HB.out | apply below_alloc | apply pw_below_drewN | apply below_drew1 | refine below_set ?_ GE158.out) | exact HB.out)⟩⟩
     case round =>
      clear H'
      (try clear c1); (try clear p1); (try clear q1); (try clear hx1); (try clear p2); (try clear c3); (try clear c3b0); (try clear p6); (try clear c10); (try clear c10b0); (try clear c11); (try clear c11b0); (try clear c12); (try clear c13); (try clear p16); (try clear q16); (try clear hx16); (try clear hcz14_0); (try clear hcz14_1); (try clear hcz14_2); (try clear hcz15_0); (try clear hcz15_1); (try clear hcz15_2); (try clear hcz16_0); (try clear hcz16_1); (try clear hcz16_2); (try clear hcz5_0); (try clear hcz5_1); (try clear hcz5_2); (try clear hcz8_0); (try clear hcz8_1); (try clear hcz8_2); (try clear hfz14_0); (try clear hfz14_1); (try clear hfz14_2); (try clear hfz15_0); (try clear hfz15_1); (try clear hfz15_2); (try clear hfz16_0); (try clear hfz16_1); (try clear hfz16_2); (try clear hfz5_0); (try clear hfz5_1); (try clear hfz5_2); (try clear hfz8_0); (try clear hfz8_1); (try clear hfz8_2); (try clear hx160_0); (try clear hx160_1); (try clear hx160_2); (try clear hx161_0); (try clear hx161_1); (try clear hx161_2); (try clear p160); (try clear p161); (try clear p2); (try clear q160); (try clear q161)
      obtain ⟨x4_2, rfl, HA, HK2, BK158, HB⟩ := hrel
      cases gk with
      | zero => exact absurd HA.out (by simp [vellumref17_Check.l1])
      | succ k2 =>
       have H := HA.out
       clear HA
       simp only [vellumref17_Check.l1] at H
       by_cases c17 : x4_2 < (l0_1.length : Int)
       ·rw [if_pos c17] at H
        have c17b0 : decide (x4_2 < (l0_1.length : Int)) = true := decide_eq_true c17
        clear c17
        by_cases c18 : 0 ≤ x4_2
        ·rw [if_pos c18] at H
         have c18b0 : decide (0 ≤ x4_2) = true := decide_eq_true c18
         clear c18
         replace H := Option.bind_eq_some_iff.mp H
         obtain ⟨t165, A190, H⟩ := H
         replace H : (if t165 = true then (vellumref17_Check.l1 k2 (wrap64 (x4_2 + 1)) l0_0 l0_1 l0_2) else (some 1)) = some r := H
         have A19 := Aside0.mk A190
         clear A190
         by_cases c20 : t165 = true
         ·subst c20
          have H1 : (vellumref17_Check.l1 k2 (wrap64 (x4_2 + 1)) l0_0 l0_1 l0_2) = some r := by rw [if_pos rfl] at H; exact H
          clear H
          have H := H1
          clear H1
          have H' := Aside0.mk H
          clear H
          have hcz21_0 : wr.cell? ⟨gb158, 0, none⟩ = some (.slice A0_0 l0_0.length c0_0) := (blk_cell BK158.out 0).trans rfl
          have hcz21_1 : wr.cell? ⟨gb158, 1, none⟩ = some (.slice A0_1 l0_1.length c0_1) := (blk_cell BK158.out 1).trans rfl
          have hcz21_2 : wr.cell? ⟨gb158, 2, none⟩ = some (.slice A0_2 l0_2.length c0_2) := (blk_cell BK158.out 2).trans rfl
          have hfz21_0 := blk_frozen BK158.out 0
          have hfz21_1 := blk_frozen BK158.out 1
          have hfz21_2 := blk_frozen BK158.out 2
          have p163 : 0 ≤ (x4_2 : Int) := of_decide_eq_true (by first | (with_reducible assumption) | assumption)
          have q163 : x4_2 < (l0_1.length : Int) := of_decide_eq_true (by first | (with_reducible assumption) | assumption)
          obtain ⟨ad163, e163, hx163_0, hx163_1, hx163_2, hx163_3, hx163_4⟩ := at_T46 HR0_1.out x4_2 p163 q163
          cases e163
          replace hx163_0 := (HB.out.cell (World.block_lt_of_cell? w _ hx163_0)).trans hx163_0
          replace hx163_1 := (HB.out.cell (World.block_lt_of_cell? w _ hx163_1)).trans hx163_1
          replace hx163_2 := (HB.out.cell (World.block_lt_of_cell? w _ hx163_2)).trans hx163_2
          replace hx163_3 := (HB.out.cell (World.block_lt_of_cell? w _ hx163_3)).trans hx163_3
          replace hx163_4 := (HB.out.cell (World.block_lt_of_cell? w _ hx163_4)).trans hx163_4
          replace p163 := eq_true p163
          replace q163 := eq_true q163
          have p164 : 0 ≤ (x4_2 : Int) := of_decide_eq_true (by first | (with_reducible assumption) | assumption)
          have q164 : x4_2 < (l0_1.length : Int) := of_decide_eq_true (by first | (with_reducible assumption) | assumption)
          obtain ⟨ad164, e164, hx164_0, hx164_1, hx164_2, hx164_3, hx164_4⟩ := at_T46 HR0_1.out x4_2 p164 q164
          obtain rfl : ad163 = ad164 := (by injection e164)
          replace hx164_0 := (HB.out.cell (World.block_lt_of_cell? w _ hx164_0)).trans hx164_0
          replace hx164_1 := (HB.out.cell (World.block_lt_of_cell? w _ hx164_1)).trans hx164_1
          replace hx164_2 := (HB.out.cell (World.block_lt_of_cell? w _ hx164_2)).trans hx164_2
          replace hx164_3 := (HB.out.cell (World.block_lt_of_cell? w _ hx164_3)).trans hx164_3
          replace hx164_4 := (HB.out.cell (World.block_lt_of_cell? w _ hx164_4)).trans hx164_4
          replace p164 := eq_true p164
          replace q164 := eq_true q164
          go_wp2_with (first | (go_at_call 30; (with_reducible refine (vellumref17_place.calls ((rd_T46 l0_1 x4_2).f0) ((rd_T46 l0_1 x4_2).f1) true _ A19.out).mono ?_); rintro e w' ⟨rfl, ⟨nd, rfl⟩⟩; (try first | exact ⟨rfl, _, World.drewN_drewN _ _ _⟩ | exact ⟨rfl, _, Eq.trans (World.drewN_drewN _ _ _) (congrArg (World.drewN _) (Nat.add_assoc _ _ _))⟩)))
          repeat (go_quiet (first | (go_at_call 30; (with_reducible refine (vellumref17_place.calls ((rd_T46 l0_1 x4_2).f0) ((rd_T46 l0_1 x4_2).f1) true _ A19.out).mono ?_); rintro e w' ⟨rfl, ⟨nd, rfl⟩⟩; (try first | exact ⟨rfl, _, World.drewN_drewN _ _ _⟩ | exact ⟨rfl, _, Eq.trans (World.drewN_drewN _ _ _) (congrArg (World.drewN _) (Nat.add_assoc _ _ _))⟩))); try go_wp2_with (first | (go_at_call 30; (with_reducible refine (vellumref17_place.calls ((rd_T46 l0_1 x4_2).f0) ((rd_T46 l0_1 x4_2).f1) true _ A19.out).mono ?_); rintro e w' ⟨rfl, ⟨nd, rfl⟩⟩; (try first | exact ⟨rfl, _, World.drewN_drewN _ _ _⟩ | exact ⟨rfl, _, Eq.trans (World.drewN_drewN _ _ _) (congrArg (World.drewN _) (Nat.add_assoc _ _ _))⟩))))
          go_roundg k2
          case measure => have := HK1.out; have := HK2.out; omega
          case rel => exact ⟨(wrap64 (x4_2 + 1)), (by first | rfl | (simp; done) | (simp [*]; done) | (simp [bool_ne_nil]; done) | (simp; exact bool_ne_nil _)), H', ⟨by have := HK1.out; have := HK2.out; omega⟩, ⟨by (with_reducible repeat (first | refine blk_drewN ?_ _ | refine blk_drew ?_ | refine blk_alloc ?_ _)); exact BK158.out⟩, ⟨by repeat (first | (with_reducible first | exact HB.out | apply below_alloc | apply pw_below_drewN | apply below_drew1 | refine below_set ?_ GE158.out) | exact HB.out)⟩⟩
         ·replace c20 := Bool.eq_false_iff.mpr c20
          subst c20
          have H1 : (some 1) = some r := by rw [if_neg (show ¬ (false = true) by decide)] at H; exact H
          clear H
          have H := H1
          clear H1
          obtain rfl := Option.some.inj H
          have hcz22_0 : wr.cell? ⟨gb158, 0, none⟩ = some (.slice A0_0 l0_0.length c0_0) := (blk_cell BK158.out 0).trans rfl
          have hcz22_1 : wr.cell? ⟨gb158, 1, none⟩ = some (.slice A0_1 l0_1.length c0_1) := (blk_cell BK158.out 1).trans rfl
          have hcz22_2 : wr.cell? ⟨gb158, 2, none⟩ = some (.slice A0_2 l0_2.length c0_2) := (blk_cell BK158.out 2).trans rfl
          have hfz22_0 := blk_frozen BK158.out 0
          have hfz22_1 := blk_frozen BK158.out 1
          have hfz22_2 := blk_frozen BK158.out 2
          have p163 : 0 ≤ (x4_2 : Int) := of_decide_eq_true (by first | (with_reducible assumption) | assumption)
          have q163 : x4_2 < (l0_1.length : Int) := of_decide_eq_true (by first | (with_reducible assumption) | assumption)
          obtain ⟨ad163, e163, hx163_0, hx163_1, hx163_2, hx163_3, hx163_4⟩ := at_T46 HR0_1.out x4_2 p163 q163
          cases e163
          replace hx163_0 := (HB.out.cell (World.block_lt_of_cell? w _ hx163_0)).trans hx163_0
          replace hx163_1 := (HB.out.cell (World.block_lt_of_cell? w _ hx163_1)).trans hx163_1
          replace hx163_2 := (HB.out.cell (World.block_lt_of_cell? w _ hx163_2)).trans hx163_2
          replace hx163_3 := (HB.out.cell (World.block_lt_of_cell? w _ hx163_3)).trans hx163_3
          replace hx163_4 := (HB.out.cell (World.block_lt_of_cell? w _ hx163_4)).trans hx163_4
          replace p163 := eq_true p163
          replace q163 := eq_true q163
          have p164 : 0 ≤ (x4_2 : Int) := of_decide_eq_true (by first | (with_reducible assumption) | assumption)
          have q164 : x4_2 < (l0_1.length : Int) := of_decide_eq_true (by first | (with_reducible assumption) | assumption)
          obtain ⟨ad164, e164, hx164_0, hx164_1, hx164_2, hx164_3, hx164_4⟩ := at_T46 HR0_1.out x4_2 p164 q164
          obtain rfl : ad163 = ad164 := (by injection e164)
          replace hx164_0 := (HB.out.cell (World.block_lt_of_cell? w _ hx164_0)).trans hx164_0
          replace hx164_1 := (HB.out.cell (World.block_lt_of_cell? w _ hx164_1)).trans hx164_1
          replace hx164_2 := (HB.out.cell (World.block_lt_of_cell? w _ hx164_2)).trans hx164_2
          replace hx164_3 := (HB.out.cell (World.block_lt_of_cell? w _ hx164_3)).trans hx164_3
          replace hx164_4 := (HB.out.cell (World.block_lt_of_cell? w _ hx164_4)).trans hx164_4
          replace p164 := eq_true p164
          replace q164 := eq_true q164
          go_wp2_with (first | (go_at_call 30; (with_reducible refine (vellumref17_place.calls ((rd_T46 l0_1 x4_2).f0) ((rd_T46 l0_1 x4_2).f1) false _ A19.out).mono ?_); rintro e w' ⟨rfl, ⟨nd, rfl⟩⟩; (try first | exact ⟨rfl, _, World.drewN_drewN _ _ _⟩ | exact ⟨rfl, _, Eq.trans (World.drewN_drewN _ _ _) (congrArg (World.drewN _) (Nat.add_assoc _ _ _))⟩)))
          repeat (go_quiet (first | (go_at_call 30; (with_reducible refine (vellumref17_place.calls ((rd_T46 l0_1 x4_2).f0) ((rd_T46 l0_1 x4_2).f1) false _ A19.out).mono ?_); rintro e w' ⟨rfl, ⟨nd, rfl⟩⟩; (try first | exact ⟨rfl, _, World.drewN_drewN _ _ _⟩ | exact ⟨rfl, _, Eq.trans (World.drewN_drewN _ _ _) (congrArg (World.drewN _) (Nat.add_assoc _ _ _))⟩))); try go_wp2_with (first | (go_at_call 30; (with_reducible refine (vellumref17_place.calls ((rd_T46 l0_1 x4_2).f0) ((rd_T46 l0_1 x4_2).f1) false _ A19.out).mono ?_); rintro e w' ⟨rfl, ⟨nd, rfl⟩⟩; (try first | exact ⟨rfl, _, World.drewN_drewN _ _ _⟩ | exact ⟨rfl, _, Eq.trans (World.drewN_drewN _ _ _) (congrArg (World.drewN _) (Nat.add_assoc _ _ _))⟩))))
          go_ret
          exact ⟨by first | rfl | (simp [errW_none, errW_some] <;> rfl) | (simp [*, errW_none, errW_some] <;> rfl), by repeat (first | (with_reducible first | exact HB.out | apply below_alloc | apply pw_below_drewN | apply below_drew1 | refine below_set ?_ GE158.out) | exact HB.out)⟩
        ·rw [if_neg c18] at H
         exact absurd H (by simp)
       ·rw [if_neg c17] at H
        have c17b0 : decide (x4_2 < (l0_1.length : Int)) = false := decide_eq_false c17
        clear c17
        have H' := Aside0.mk H
        clear H
        have hcz23_0 : wr.cell? ⟨gb158, 0, none⟩ = some (.slice A0_0 l0_0.length c0_0) := (blk_cell BK158.out 0).trans rfl
        have hcz23_1 : wr.cell? ⟨gb158, 1, none⟩ = some (.slice A0_1 l0_1.length c0_1) := (blk_cell BK158.out 1).trans rfl
        have hcz23_2 : wr.cell? ⟨gb158, 2, none⟩ = some (.slice A0_2 l0_2.length c0_2) := (blk_cell BK158.out 2).trans rfl
        have hfz23_0 := blk_frozen BK158.out 0
        have hfz23_1 := blk_frozen BK158.out 1
        have hfz23_2 := blk_frozen BK158.out 2
        go_wp2
        repeat (go_quiet (fail); try go_wp2)
        go_loopg [5] k2 (fun kq v5 w' => ∃ (x5_3 : Int), v5 = .int .i64 x5_3 ∧ Aside0 (vellumref17_Check.l2 kq x5_3 l0_0 l0_1 l0_2 = some r) ∧ Aside0 (kq ≤ k2) ∧ Aside0 (w'.heap[gb158]? = some (.cells #[(.slice A0_0 l0_0.length c0_0), (.slice A0_1 l0_1.length c0_1), (.slice A0_2 l0_2.length c0_2)] 25 (0, 0))) ∧ Aside0 (Below w.heap.size w w'))
        case atStart => exact ⟨(0), (by first | rfl | (simp; done) | (simp [*]; done) | (simp [bool_ne_nil]; done) | (simp; exact bool_ne_nil _)), H', ⟨Nat.le_refl _⟩, ⟨by (with_reducible repeat (first | refine blk_drewN ?_ _ | refine blk_drew ?_ | refine blk_alloc ?_ _)); exact BK158.out⟩, ⟨by repeat (first | (with_reducible first | exact HB.out | apply below_alloc | apply pw_below_drewN | apply below_drew1 | refine below_set ?_ GE158.out) | exact HB.out)⟩⟩
        case round =>
         clear H'
         (try clear c1); (try clear p1); (try clear q1); (try clear hx1); (try clear c2); (try clear p2); (try clear c3); (try clear c3b0); (try clear p6); (try clear c10); (try clear c10b0); (try clear c11); (try clear c11b0); (try clear c12); (try clear c13); (try clear p16); (try clear q16); (try clear hx16); (try clear c17); (try clear c17b0); (try clear c18); (try clear c18b0); (try clear c20); (try clear hcz14_0); (try clear hcz14_1); (try clear hcz14_2); (try clear hcz15_0); (try clear hcz15_1); (try clear hcz15_2); (try clear hcz16_0); (try clear hcz16_1); (try clear hcz16_2); (try clear hcz21_0); (try clear hcz21_1); (try clear hcz21_2); (try clear hcz22_0); (try clear hcz22_1); (try clear hcz22_2); (try clear hcz23_0); (try clear hcz23_1); (try clear hcz23_2); (try clear hcz5_0); (try clear hcz5_1); (try clear hcz5_2); (try clear hcz8_0); (try clear hcz8_1); (try clear hcz8_2); (try clear hfz14_0); (try clear hfz14_1); (try clear hfz14_2); (try clear hfz15_0); (try clear hfz15_1); (try clear hfz15_2); (try clear hfz16_0); (try clear hfz16_1); (try clear hfz16_2); (try clear hfz21_0); (try clear hfz21_1); (try clear hfz21_2); (try clear hfz22_0); (try clear hfz22_1); (try clear hfz22_2); (try clear hfz23_0); (try clear hfz23_1); (try clear hfz23_2); (try clear hfz5_0); (try clear hfz5_1); (try clear hfz5_2); (try clear hfz8_0); (try clear hfz8_1); (try clear hfz8_2); (try clear hx160_0); (try clear hx160_1); (try clear hx160_2); (try clear hx161_0); (try clear hx161_1); (try clear hx161_2); (try clear hx163_0); (try clear hx163_1); (try clear hx163_2); (try clear hx163_3); (try clear hx163_4); (try clear hx164_0); (try clear hx164_1); (try clear hx164_2); (try clear hx164_3); (try clear hx164_4); (try clear p1); (try clear p16); (try clear p160); (try clear p161); (try clear p163); (try clear p164); (try clear p2); (try clear p6); (try clear q1); (try clear q16); (try clear q160); (try clear q161); (try clear q163); (try clear q164)
         obtain ⟨x5_3, rfl, HA, HK3, BK158, HB⟩ := hrel
         cases gk with
         | zero => exact absurd HA.out (by simp [vellumref17_Check.l2])
         | succ k3 =>
          have H := HA.out
          clear HA
          simp only [vellumref17_Check.l2] at H
          by_cases c24 : x5_3 < (l0_2.length : Int)
          ·rw [if_pos c24] at H
           have c24b0 : decide (x5_3 < (l0_2.length : Int)) = true := decide_eq_true c24
           clear c24
           by_cases c25 : 0 ≤ x5_3
           ·rw [if_pos c25] at H
            have c25b0 : decide (0 ≤ x5_3) = true := decide_eq_true c25
            clear c25
            replace H := Option.bind_eq_some_iff.mp H
            obtain ⟨t168, A260, H⟩ := H
            replace H : (if t168 = true then (vellumref17_Check.l2 k3 (wrap64 (x5_3 + 1)) l0_0 l0_1 l0_2) else (some 1)) = some r := H
            have A26 := Aside0.mk A260
            clear A260
            by_cases c27 : t168 = true
            ·subst c27
             have H1 : (vellumref17_Check.l2 k3 (wrap64 (x5_3 + 1)) l0_0 l0_1 l0_2) = some r := by rw [if_pos rfl] at H; exact H
             clear H
             have H := H1
             clear H1
             have H' := Aside0.mk H
             clear H
             have hcz28_0 : wr.cell? ⟨gb158, 0, none⟩ = some (.slice A0_0 l0_0.length c0_0) := (blk_cell BK158.out 0).trans rfl
             have hcz28_1 : wr.cell? ⟨gb158, 1, none⟩ = some (.slice A0_1 l0_1.length c0_1) := (blk_cell BK158.out 1).trans rfl
             have hcz28_2 : wr.cell? ⟨gb158, 2, none⟩ = some (.slice A0_2 l0_2.length c0_2) := (blk_cell BK158.out 2).trans rfl
             have hfz28_0 := blk_frozen BK158.out 0
             have hfz28_1 := blk_frozen BK158.out 1
             have hfz28_2 := blk_frozen BK158.out 2
             have p166 : 0 ≤ (x5_3 : Int) := of_decide_eq_true (by first | (with_reducible assumption) | assumption)
             have q166 : x5_3 < (l0_2.length : Int) := of_decide_eq_true (by first | (with_reducible assumption) | assumption)
             obtain ⟨ad166, e166, hx166_0, hx166_1, hx166_2⟩ := at_T37 HR0_2.out x5_3 p166 q166
             cases e166
             replace hx166_0 := (HB.out.cell (World.block_lt_of_cell? w _ hx166_0)).trans hx166_0
             replace hx166_1 := (HB.out.cell (World.block_lt_of_cell? w _ hx166_1)).trans hx166_1
             replace hx166_2 := (HB.out.cell (World.block_lt_of_cell? w _ hx166_2)).trans hx166_2
             replace p166 := eq_true p166
             replace q166 := eq_true q166
             have p167 : 0 ≤ (x5_3 : Int) := of_decide_eq_true (by first | (with_reducible assumption) | assumption)
             have q167 : x5_3 < (l0_2.length : Int) := of_decide_eq_true (by first | (with_reducible assumption) | assumption)
             obtain ⟨ad167, e167, hx167_0, hx167_1, hx167_2⟩ := at_T37 HR0_2.out x5_3 p167 q167
             obtain rfl : ad166 = ad167 := (by injection e167)
             replace hx167_0 := (HB.out.cell (World.block_lt_of_cell? w _ hx167_0)).trans hx167_0
             replace hx167_1 := (HB.out.cell (World.block_lt_of_cell? w _ hx167_1)).trans hx167_1
             replace hx167_2 := (HB.out.cell (World.block_lt_of_cell? w _ hx167_2)).trans hx167_2
             replace p167 := eq_true p167
             replace q167 := eq_true q167
             go_wp2_with (first | (go_at_call 30; (with_reducible refine (vellumref17_place.calls ((rd_T37 l0_2 x5_3).f0) ((rd_T37 l0_2 x5_3).f1) true _ A26.out).mono ?_); rintro e w' ⟨rfl, ⟨nd, rfl⟩⟩; (try first | exact ⟨rfl, _, World.drewN_drewN _ _ _⟩ | exact ⟨rfl, _, Eq.trans (World.drewN_drewN _ _ _) (congrArg (World.drewN _) (Nat.add_assoc _ _ _))⟩)))
             repeat (go_quiet (first | (go_at_call 30; (with_reducible refine (vellumref17_place.calls ((rd_T37 l0_2 x5_3).f0) ((rd_T37 l0_2 x5_3).f1) true _ A26.out).mono ?_); rintro e w' ⟨rfl, ⟨nd, rfl⟩⟩; (try first | exact ⟨rfl, _, World.drewN_drewN _ _ _⟩ | exact ⟨rfl, _, Eq.trans (World.drewN_drewN _ _ _) (congrArg (World.drewN _) (Nat.add_assoc _ _ _))⟩))); try go_wp2_with (first | (go_at_call 30; (with_reducible refine (vellumref17_place.calls ((rd_T37 l0_2 x5_3).f0) ((rd_T37 l0_2 x5_3).f1) true _ A26.out).mono ?_); rintro e w' ⟨rfl, ⟨nd, rfl⟩⟩; (try first | exact ⟨rfl, _, World.drewN_drewN _ _ _⟩ | exact ⟨rfl, _, Eq.trans (World.drewN_drewN _ _ _) (congrArg (World.drewN _) (Nat.add_assoc _ _ _))⟩))))
             go_roundg k3
             case measure => have := HK1.out; have := HK2.out; have := HK3.out; omega
             case rel => exact ⟨(wrap64 (x5_3 + 1)), (by first | rfl | (simp; done) | (simp [*]; done) | (simp [bool_ne_nil]; done) | (simp; exact bool_ne_nil _)), H', ⟨by have := HK1.out; have := HK2.out; have := HK3.out; omega⟩, ⟨by (with_reducible repeat (first | refine blk_drewN ?_ _ | refine blk_drew ?_ | refine blk_alloc ?_ _)); exact BK158.out⟩, ⟨by repeat (first | (with_reducible first | exact HB.out | apply below_alloc | apply pw_below_drewN | apply below_drew1 | refine below_set ?_ GE158.out) | exact HB.out)⟩⟩
            ·replace c27 := Bool.eq_false_iff.mpr c27
             subst c27
             have H1 : (some 1) = some r := by rw [if_neg (show ¬ (false = true) by decide)] at H; exact H
             clear H
             have H := H1
             clear H1
             obtain rfl := Option.some.inj H
             have hcz29_0 : wr.cell? ⟨gb158, 0, none⟩ = some (.slice A0_0 l0_0.length c0_0) := (blk_cell BK158.out 0).trans rfl
             have hcz29_1 : wr.cell? ⟨gb158, 1, none⟩ = some (.slice A0_1 l0_1.length c0_1) := (blk_cell BK158.out 1).trans rfl
             have hcz29_2 : wr.cell? ⟨gb158, 2, none⟩ = some (.slice A0_2 l0_2.length c0_2) := (blk_cell BK158.out 2).trans rfl
             have hfz29_0 := blk_frozen BK158.out 0
             have hfz29_1 := blk_frozen BK158.out 1
             have hfz29_2 := blk_frozen BK158.out 2
             have p166 : 0 ≤ (x5_3 : Int) := of_decide_eq_true (by first | (with_reducible assumption) | assumption)
             have q166 : x5_3 < (l0_2.length : Int) := of_decide_eq_true (by first | (with_reducible assumption) | assumption)
             obtain ⟨ad166, e166, hx166_0, hx166_1, hx166_2⟩ := at_T37 HR0_2.out x5_3 p166 q166
             cases e166
             replace hx166_0 := (HB.out.cell (World.block_lt_of_cell? w _ hx166_0)).trans hx166_0
             replace hx166_1 := (HB.out.cell (World.block_lt_of_cell? w _ hx166_1)).trans hx166_1
             replace hx166_2 := (HB.out.cell (World.block_lt_of_cell? w _ hx166_2)).trans hx166_2
             replace p166 := eq_true p166
             replace q166 := eq_true q166
             have p167 : 0 ≤ (x5_3 : Int) := of_decide_eq_true (by first | (with_reducible assumption) | assumption)
             have q167 : x5_3 < (l0_2.length : Int) := of_decide_eq_true (by first | (with_reducible assumption) | assumption)
             obtain ⟨ad167, e167, hx167_0, hx167_1, hx167_2⟩ := at_T37 HR0_2.out x5_3 p167 q167
             obtain rfl : ad166 = ad167 := (by injection e167)
             replace hx167_0 := (HB.out.cell (World.block_lt_of_cell? w _ hx167_0)).trans hx167_0
             replace hx167_1 := (HB.out.cell (World.block_lt_of_cell? w _ hx167_1)).trans hx167_1
             replace hx167_2 := (HB.out.cell (World.block_lt_of_cell? w _ hx167_2)).trans hx167_2
             replace p167 := eq_true p167
             replace q167 := eq_true q167
             go_wp2_with (first | (go_at_call 30; (with_reducible refine (vellumref17_place.calls ((rd_T37 l0_2 x5_3).f0) ((rd_T37 l0_2 x5_3).f1) false _ A26.out).mono ?_); rintro e w' ⟨rfl, ⟨nd, rfl⟩⟩; (try first | exact ⟨rfl, _, World.drewN_drewN _ _ _⟩ | exact ⟨rfl, _, Eq.trans (World.drewN_drewN _ _ _) (congrArg (World.drewN _) (Nat.add_assoc _ _ _))⟩)))
             repeat (go_quiet (first | (go_at_call 30; (with_reducible refine (vellumref17_place.calls ((rd_T37 l0_2 x5_3).f0) ((rd_T37 l0_2 x5_3).f1) false _ A26.out).mono ?_); rintro e w' ⟨rfl, ⟨nd, rfl⟩⟩; (try first | exact ⟨rfl, _, World.drewN_drewN _ _ _⟩ | exact ⟨rfl, _, Eq.trans (World.drewN_drewN _ _ _) (congrArg (World.drewN _) (Nat.add_assoc _ _ _))⟩))); try go_wp2_with (first | (go_at_call 30; (with_reducible refine (vellumref17_place.calls ((rd_T37 l0_2 x5_3).f0) ((rd_T37 l0_2 x5_3).f1) false _ A26.out).mono ?_); rintro e w' ⟨rfl, ⟨nd, rfl⟩⟩; (try first | exact ⟨rfl, _, World.drewN_drewN _ _ _⟩ | exact ⟨rfl, _, Eq.trans (World.drewN_drewN _ _ _) (congrArg (World.drewN _) (Nat.add_assoc _ _ _))⟩))))
             go_ret
             exact ⟨by first | rfl | (simp [errW_none, errW_some] <;> rfl) | (simp [*, errW_none, errW_some] <;> rfl), by repeat (first | (with_reducible first | exact HB.out | apply below_alloc | apply pw_below_drewN | apply below_drew1 | refine below_set ?_ GE158.out) | exact HB.out)⟩
           ·rw [if_neg c25] at H
            exact absurd H (by simp)
          ·rw [if_neg c24] at H
           have c24b0 : decide (x5_3 < (l0_2.length : Int)) = false := decide_eq_false c24
           clear c24
           obtain rfl := Option.some.inj H
           have hcz30_0 : wr.cell? ⟨gb158, 0, none⟩ = some (.slice A0_0 l0_0.length c0_0) := (blk_cell BK158.out 0).trans rfl
           have hcz30_1 : wr.cell? ⟨gb158, 1, none⟩ = some (.slice A0_1 l0_1.length c0_1) := (blk_cell BK158.out 1).trans rfl
           have hcz30_2 : wr.cell? ⟨gb158, 2, none⟩ = some (.slice A0_2 l0_2.length c0_2) := (blk_cell BK158.out 2).trans rfl
           have hfz30_0 := blk_frozen BK158.out 0
           have hfz30_1 := blk_frozen BK158.out 1
           have hfz30_2 := blk_frozen BK158.out 2
           go_wp2
           repeat (go_quiet (fail); try go_wp2)
           go_ret
           exact ⟨by first | rfl | (simp [errW_none, errW_some] <;> rfl) | (simp [*, errW_none, errW_some] <;> rfl), by repeat (first | (with_reducible first | exact HB.out | apply below_alloc | apply pw_below_drewN | apply below_drew1 | refine below_set ?_ GE158.out) | exact HB.out)⟩
end Go.Proofs.YtldlenjfpjihdaaGreat.PS
end
section
namespace Go.Proofs
open Go.Shelf
def Tryz.lays106_ren : Go.Shelf.Ren := ⟨fun | 106 => 74 | 213 => 86 | 265 => 109 | n => n, fun | 9 => 9 | 3 => 3 | n => n, fun | n => n⟩
theorem Tryz.lays106 : Go.Proofs.Lays.n106 Tryz.prog Tryz.lays106_ren := {
  mixed := by kernel_rfl
  f106 := Tryz.func74.trans (congrArg some (by kernel_rfl))
  f213 := Tryz.func86.trans (congrArg some (by kernel_rfl))
  f265 := Tryz.func109.trans (congrArg some (by kernel_rfl))
  t3 := Tryz.underlying3
  a3 := Tryz.isAgg3
  z3 := Tryz.sizeOf3
  v3 := Tryz.zeroValue3
  t9 := Tryz.underlying9
  a9 := Tryz.isAgg9
  z9 := Tryz.sizeOf9
  v9 := Tryz.zeroValue9 }
open Go.RowKit in
/-- strings.Compare: "Compare returns an integer comparing two strings lexicographically. The result will be 0 if a == b, -1 if a < b, and +1 if a > b.": IT RETURNS 'Lib.compareBytes a b'; the world is as_ it was. (LAID: no walk: one application.) -/
theorem Tryz.strings_Compare (a b : ByteArray) (w : World) :
    Calls Tryz.prog 74 #[.string a, .string b] w fun e w' => e = .returned (.int .i64 (Lib.compareBytes a.data.toList b.data.toList)) ∧ w' = w := Any.strings_Compare Tryz.lays106 a b w
end Go.Proofs
end
section
namespace Go.Proofs.YtldlenjfpjihdaaGreatW.PrintWords
open Go Go.RowKit Go.Proofs
def strings_Compare.f (s t : ByteArray) : Option Int := some (Lib.compareBytes s.data.toList t.data.toList)
theorem strings_Compare.calls (a0 a1 : ByteArray) (r : Int) (w : World) (h : strings_Compare.f a0 a1 = some r) :
  Calls Tryz.prog 74 #[.string a0, .string a1] w fun e w' => e = .returned (.int .i64 r) ∧ Drawn0 w w' := by
 obtain rfl := Option.some.inj h
 exact (Tryz.strings_Compare a0 a1 w).mono fun e w' h => ⟨h.1, by rw [h.2]; exact Drawn0.refl _⟩
end Go.Proofs.YtldlenjfpjihdaaGreatW.PrintWords
end
section
namespace Go.Proofs.YtldlenjfpjihdaaGreat.PS
open Go.RowKit Go.Proofs.YtldlenjfpjihdaaGreatW.PrintWords Go.Proofs.YtldlenjfpjihdaaGreatW.PrintLast Go.Proofs.YtldlenjfpjihdaaGreatW.PrintMore
attribute [local go_sem] max2_int min2_int max_two min_two max_three min_three max_four min_four
set_option linter.unusedVariables false
set_option linter.unusedSimpArgs false
attribute [local go_sem high] eqA37
def cmp_Or_int.l0 : Nat → Int → List Int → Int → Int → Option (Int)
 | 0, _, _, _, _ => none
 | k + 1, x3, x6, x7, x8 => if x8 < x7 then (if 0 ≤ x8 then (if x8 < (x6.length : Int) then (if (rd x6 x8) = x3 then (cmp_Or_int.l0 k x3 x6 x7 (wrap64 (x8 + 1))) else (some (rd x6 x8))) else (none)) else (none)) else (some x3)
def cmp_Or_int.f (k : Nat) (l0 : List Int) : Option (Int) := cmp_Or_int.l0 k 0 l0 (l0.length : Int) 0
set_option maxHeartbeats 8000000 in
set_option maxRecDepth 100000 in
theorem cmp_Or_int.calls (k : Nat) (A0 : Option Addr) (c0 : Nat) (l0 : List Int) (r : Int) (w : World) (hr0 : Kd.C (Kd.int .i64) w A0 l0.length l0) (hc0 : l0.length ≤ c0) (h : cmp_Or_int.f k l0 = some r) :
  Calls Tryz.prog 49 #[.slice A0 l0.length c0] w fun e w' => e = .returned (.int .i64 r) ∧ Drawn0 w w' := by
 have HR0 := am hr0
 have HC0 := am hc0
 clear hr0 hc0
 have H : (cmp_Or_int.l0 k 0 l0 (l0.length : Int) 0) = some r := h
 clear h
 have H' := am H
 clear H
 go_enter Tryz.func49, Tryz.ntmps49
 go_wp2
 go_loopg [8] k (fun kq v8 w' => ∃ (x8_1 : Int), v8 = .int .i64 x8_1 ∧ Aside0 (cmp_Or_int.l0 kq 0 l0 (l0.length : Int) x8_1 = some r) ∧ Aside0 (kq ≤ k) ∧ Drawn0 w w')
 case atStart => exact ⟨(0), eb, H', ⟨Nat.le_refl _⟩, by repeat (first | exact Drawn0.refl _ | apply Drawn0.step)⟩
 case round =>
  clear H'
  obtain ⟨x8_1, rfl, HA, HK1, ⟨m1, rfl⟩⟩ := hrel
  cases gk with
  | zero => exact absurd HA.out (by simp [cmp_Or_int.l0])
  | succ k1 =>
   have H := HA.out
   clear HA
   simp only [cmp_Or_int.l0] at H
   by_cases c2 : x8_1 < (l0.length : Int)
   ·rw [if_pos c2] at H
    have c2b0 : decide (x8_1 < (l0.length : Int)) = true := decide_eq_true c2
    clear c2
    by_cases c3 : 0 ≤ x8_1
    ·rw [if_pos c3] at H
     have c3b0 : decide (0 ≤ x8_1) = true := decide_eq_true c3
     clear c3
     by_cases c4 : x8_1 < (l0.length : Int)
     ·rw [if_pos c4] at H
      have c4b0 : decide (x8_1 < (l0.length : Int)) = true := decide_eq_true c4
      clear c4
      by_cases c5 : (rd l0 x8_1) = 0
      ·rw [if_pos c5] at H
       have c5b0 : ((rd l0 x8_1) == 0) = true := beq_iff_eq.mpr c5
       have c5b1 : ((rd l0 x8_1) != 0) = false := bne_eq_false_iff_eq.mpr c5
       clear c5
       have H' := am H
       clear H
       have p169 : 0 ≤ (x8_1 : Int) := oda
       have q169 : x8_1 < (l0.length : Int) := oda
       obtain ⟨ad169, e169, hx169_0⟩ := Kd.at_int HR0.out x8_1 p169 q169
       cases e169
       replace p169 := eq_true p169
       replace q169 := eq_true q169
       go_wp2
       go_roundg k1
       case measure => have := HK1.out; omega
       case rel => exact ⟨(wrap64 (x8_1 + 1)), eb, H', ⟨by have := HK1.out; omega⟩, by repeat (first | exact Drawn0.refl _ | apply Drawn0.step)⟩
      ·rw [if_neg c5] at H
       have c5b0 : ((rd l0 x8_1) == 0) = false := beq_eq_false_iff_ne.mpr c5
       have c5b1 : ((rd l0 x8_1) != 0) = true := bne_iff_ne.mpr c5
       obtain rfl := Option.some.inj H
       have p169 : 0 ≤ (x8_1 : Int) := oda
       have q169 : x8_1 < (l0.length : Int) := oda
       obtain ⟨ad169, e169, hx169_0⟩ := Kd.at_int HR0.out x8_1 p169 q169
       cases e169
       replace p169 := eq_true p169
       replace q169 := eq_true q169
       go_wp2
       go_ret
       exact ⟨eb, by repeat (first | exact Drawn0.refl _ | apply Drawn0.step)⟩
     ·rw [if_neg c4] at H
      exact absurd H (by simp)
    ·rw [if_neg c3] at H
     exact absurd H (by simp)
   ·rw [if_neg c2] at H
    have c2b0 : decide (x8_1 < (l0.length : Int)) = false := decide_eq_false c2
    clear c2
    obtain rfl := Option.some.inj H
    go_wp2
    go_ret
    exact ⟨eb, by repeat (first | exact Drawn0.refl _ | apply Drawn0.step)⟩
def cmp_isNaN_int.f (a0 : Int) : Option (Bool) := some (a0 != a0)
set_option maxHeartbeats 8000000 in
set_option maxRecDepth 100000 in
theorem cmp_isNaN_int.calls (a0 : Int) (r : Bool) (w : World) (h : cmp_isNaN_int.f a0 = some r) :
  Calls Tryz.prog 68 #[.int .i64 a0] w fun e w' => e = .returned (.bool r) ∧ Drawn0 w w' := by
 have H : (some (a0 != a0)) = some r := h
 clear h
 obtain rfl := Option.some.inj H
 go_enter Tryz.func68, Tryz.ntmps68
 go_wp2
 go_ret
 exact ⟨eb, by repeat (first | exact Drawn0.refl _ | apply Drawn0.step)⟩
def cmp_Compare_int.f (a0 : Int) (a1 : Int) : Option (Int) := (cmp_isNaN_int.f a0).bind fun t170 => ((cmp_isNaN_int.f a1).bind fun t171 => (if t170 = true then (if t171 = true then (some 0) else (some (-1))) else (if t171 = true then (some 1) else (if a0 < a1 then (some (-1)) else (if a0 > a1 then (some 1) else (some 0))))))
set_option maxHeartbeats 8000000 in
set_option maxRecDepth 100000 in
theorem cmp_Compare_int.calls (a0 : Int) (a1 : Int) (r : Int) (w : World) (h : cmp_Compare_int.f a0 a1 = some r) :
  Calls Tryz.prog 50 #[.int .i64 a0, .int .i64 a1] w fun e w' => e = .returned (.int .i64 r) ∧ Drawn0 w w' := by
 have H : ((cmp_isNaN_int.f a0).bind fun t170 => ((cmp_isNaN_int.f a1).bind fun t171 => (if t170 = true then (if t171 = true then (some 0) else (some (-1))) else (if t171 = true then (some 1) else (if a0 < a1 then (some (-1)) else (if a0 > a1 then (some 1) else (some 0))))))) = some r := h
 clear h
 replace H := Option.bind_eq_some_iff.mp H
 obtain ⟨t170, A30, H⟩ := H
 replace H : ((cmp_isNaN_int.f a1).bind fun t171 => (if t170 = true then (if t171 = true then (some 0) else (some (-1))) else (if t171 = true then (some 1) else (if a0 < a1 then (some (-1)) else (if a0 > a1 then (some 1) else (some 0)))))) = some r := H
 have A3 := am A30
 clear A30
 replace H := Option.bind_eq_some_iff.mp H
 obtain ⟨t171, A40, H⟩ := H
 replace H : (if t170 = true then (if t171 = true then (some 0) else (some (-1))) else (if t171 = true then (some 1) else (if a0 < a1 then (some (-1)) else (if a0 > a1 then (some 1) else (some 0))))) = some r := H
 have A4 := am A40
 clear A40
 by_cases c5 : t170 = true
 ·subst c5
  have H1 : (if t171 = true then (some 0) else (some (-1))) = some r := by rw [if_pos rfl] at H; exact H
  clear H
  have H := H1
  clear H1
  by_cases c6 : t171 = true
  ·subst c6
   have H1 : (some 0) = some r := by rw [if_pos rfl] at H; exact H
   clear H
   have H := H1
   clear H1
   obtain rfl := Option.some.inj H
   go_enter Tryz.func50, Tryz.ntmps50
   go_wp2_with (first | ((with_reducible refine gate_callee (f := 68) rfl ?_); refine goesL_ (some 8) rfl rfl Tryz.func68 (by kernel_rfl) rfl #[.int .i64 a0] rfl ar ?_; (with_reducible refine (cmp_isNaN_int.calls a0 true _ A3.out).mono ?_); rintro e w' ⟨rfl, ⟨nd, rfl⟩⟩; refine ⟨_, rfl, ?_⟩) | ((with_reducible refine gate_callee (f := 68) rfl ?_); refine goesL_ (some 10) rfl rfl Tryz.func68 (by kernel_rfl) rfl #[.int .i64 a1] rfl ar ?_; (with_reducible refine (cmp_isNaN_int.calls a1 true _ A4.out).mono ?_); rintro e w' ⟨rfl, ⟨nd, rfl⟩⟩; refine ⟨_, rfl, ?_⟩))
   go_ret
   exact ⟨eb, by repeat (first | exact Drawn0.refl _ | apply Drawn0.step)⟩
  ·replace c6 := Bool.eq_false_iff.mpr c6
   subst c6
   have H1 : (some (-1)) = some r := by rw [if_neg (show ¬ (false = true) by decide)] at H; exact H
   clear H
   have H := H1
   clear H1
   obtain rfl := Option.some.inj H
   go_enter Tryz.func50, Tryz.ntmps50
   go_wp2_with (first | ((with_reducible refine gate_callee (f := 68) rfl ?_); refine goesL_ (some 8) rfl rfl Tryz.func68 (by kernel_rfl) rfl #[.int .i64 a0] rfl ar ?_; (with_reducible refine (cmp_isNaN_int.calls a0 true _ A3.out).mono ?_); rintro e w' ⟨rfl, ⟨nd, rfl⟩⟩; refine ⟨_, rfl, ?_⟩) | ((with_reducible refine gate_callee (f := 68) rfl ?_); refine goesL_ (some 10) rfl rfl Tryz.func68 (by kernel_rfl) rfl #[.int .i64 a1] rfl ar ?_; (with_reducible refine (cmp_isNaN_int.calls a1 false _ A4.out).mono ?_); rintro e w' ⟨rfl, ⟨nd, rfl⟩⟩; refine ⟨_, rfl, ?_⟩))
   go_ret
   exact ⟨eb, by repeat (first | exact Drawn0.refl _ | apply Drawn0.step)⟩
 ·replace c5 := Bool.eq_false_iff.mpr c5
  subst c5
  have H1 : (if t171 = true then (some 1) else (if a0 < a1 then (some (-1)) else (if a0 > a1 then (some 1) else (some 0)))) = some r := by rw [if_neg (show ¬ (false = true) by decide)] at H; exact H
  clear H
  have H := H1
  clear H1
  by_cases c7 : t171 = true
  ·subst c7
   have H1 : (some 1) = some r := by rw [if_pos rfl] at H; exact H
   clear H
   have H := H1
   clear H1
   obtain rfl := Option.some.inj H
   go_enter Tryz.func50, Tryz.ntmps50
   go_wp2_with (first | ((with_reducible refine gate_callee (f := 68) rfl ?_); refine goesL_ (some 8) rfl rfl Tryz.func68 (by kernel_rfl) rfl #[.int .i64 a0] rfl ar ?_; (with_reducible refine (cmp_isNaN_int.calls a0 false _ A3.out).mono ?_); rintro e w' ⟨rfl, ⟨nd, rfl⟩⟩; refine ⟨_, rfl, ?_⟩) | ((with_reducible refine gate_callee (f := 68) rfl ?_); refine goesL_ (some 10) rfl rfl Tryz.func68 (by kernel_rfl) rfl #[.int .i64 a1] rfl ar ?_; (with_reducible refine (cmp_isNaN_int.calls a1 true _ A4.out).mono ?_); rintro e w' ⟨rfl, ⟨nd, rfl⟩⟩; refine ⟨_, rfl, ?_⟩))
   go_ret
   exact ⟨eb, by repeat (first | exact Drawn0.refl _ | apply Drawn0.step)⟩
  ·replace c7 := Bool.eq_false_iff.mpr c7
   subst c7
   have H1 : (if a0 < a1 then (some (-1)) else (if a0 > a1 then (some 1) else (some 0))) = some r := by rw [if_neg (show ¬ (false = true) by decide)] at H; exact H
   clear H
   have H := H1
   clear H1
   by_cases c8 : a0 < a1
   ·rw [if_pos c8] at H
    have c8b0 : decide (a0 < a1) = true := decide_eq_true c8
    clear c8
    obtain rfl := Option.some.inj H
    go_enter Tryz.func50, Tryz.ntmps50
    go_wp2_with (first | ((with_reducible refine gate_callee (f := 68) rfl ?_); refine goesL_ (some 8) rfl rfl Tryz.func68 (by kernel_rfl) rfl #[.int .i64 a0] rfl ar ?_; (with_reducible refine (cmp_isNaN_int.calls a0 false _ A3.out).mono ?_); rintro e w' ⟨rfl, ⟨nd, rfl⟩⟩; refine ⟨_, rfl, ?_⟩) | ((with_reducible refine gate_callee (f := 68) rfl ?_); refine goesL_ (some 10) rfl rfl Tryz.func68 (by kernel_rfl) rfl #[.int .i64 a1] rfl ar ?_; (with_reducible refine (cmp_isNaN_int.calls a1 false _ A4.out).mono ?_); rintro e w' ⟨rfl, ⟨nd, rfl⟩⟩; refine ⟨_, rfl, ?_⟩))
    go_ret
    exact ⟨eb, by repeat (first | exact Drawn0.refl _ | apply Drawn0.step)⟩
   ·rw [if_neg c8] at H
    have c8b0 : decide (a0 < a1) = false := decide_eq_false c8
    clear c8
    by_cases c9 : a0 > a1
    ·rw [if_pos c9] at H
     have c9b0 : decide (a1 < a0) = true := decide_eq_true c9
     clear c9
     obtain rfl := Option.some.inj H
     go_enter Tryz.func50, Tryz.ntmps50
     go_wp2_with (first | ((with_reducible refine gate_callee (f := 68) rfl ?_); refine goesL_ (some 8) rfl rfl Tryz.func68 (by kernel_rfl) rfl #[.int .i64 a0] rfl ar ?_; (with_reducible refine (cmp_isNaN_int.calls a0 false _ A3.out).mono ?_); rintro e w' ⟨rfl, ⟨nd, rfl⟩⟩; refine ⟨_, rfl, ?_⟩) | ((with_reducible refine gate_callee (f := 68) rfl ?_); refine goesL_ (some 10) rfl rfl Tryz.func68 (by kernel_rfl) rfl #[.int .i64 a1] rfl ar ?_; (with_reducible refine (cmp_isNaN_int.calls a1 false _ A4.out).mono ?_); rintro e w' ⟨rfl, ⟨nd, rfl⟩⟩; refine ⟨_, rfl, ?_⟩))
     go_ret
     exact ⟨eb, by repeat (first | exact Drawn0.refl _ | apply Drawn0.step)⟩
    ·rw [if_neg c9] at H
     have c9b0 : decide (a1 < a0) = false := decide_eq_false c9
     clear c9
     obtain rfl := Option.some.inj H
     go_enter Tryz.func50, Tryz.ntmps50
     go_wp2_with (first | ((with_reducible refine gate_callee (f := 68) rfl ?_); refine goesL_ (some 8) rfl rfl Tryz.func68 (by kernel_rfl) rfl #[.int .i64 a0] rfl ar ?_; (with_reducible refine (cmp_isNaN_int.calls a0 false _ A3.out).mono ?_); rintro e w' ⟨rfl, ⟨nd, rfl⟩⟩; refine ⟨_, rfl, ?_⟩) | ((with_reducible refine gate_callee (f := 68) rfl ?_); refine goesL_ (some 10) rfl rfl Tryz.func68 (by kernel_rfl) rfl #[.int .i64 a1] rfl ar ?_; (with_reducible refine (cmp_isNaN_int.calls a1 false _ A4.out).mono ?_); rintro e w' ⟨rfl, ⟨nd, rfl⟩⟩; refine ⟨_, rfl, ?_⟩))
     go_ret
     exact ⟨eb, by repeat (first | exact Drawn0.refl _ | apply Drawn0.step)⟩
def sets_before.f (k : Nat) (a0_0 : Int) (a0_1 : Int) (a0_2 : ByteArray) (a1_0 : Int) (a1_1 : Int) (a1_2 : ByteArray) : Option (Int) := (cmp_Compare_int.f a0_0 a1_0).bind fun t174 => ((cmp_Compare_int.f a0_1 a1_1).bind fun t175 => ((strings_Compare.f a0_2 a1_2).bind fun t176 => ((cmp_Or_int.f k (([t174, t175, t176] : List Int))).bind fun t180 => (some t180))))
def sets_before.T1 : Bool × List (List Nat × List Nat) := (true, [([], []), ([0], [0]), ([], []), ([2], [2]), ([1, 3], [1, 3]), ([], []), ([5], [5]), ([], []), ([7], [7]), ([6, 8, 4], [6, 8]), ([], []), ([10], [10]), ([], []), ([12], [12]), ([11, 13, 9], [11, 13]), ([4, 9, 14], [4, 9, 14]), ([15, 14], [15]), ([16, 16, 0, 1, 2, 3, 4, 5, 6, 7, 8, 9, 10, 11, 12, 13, 14, 15, 16], [16])])
def sets_before.B1 : List Nat := [0, 1, 0, 4, 15, 0, 32, 0, 128, 511, 0, 1024, 0, 4096, 16383, 32767, 65535, 131071]
theorem sets_before.tab1 : rtab .any (opsOf Tryz.f64 1) = sets_before.T1 := by kernel_rfl
theorem sets_before.bits1 : waitsOk sets_before.T1.2 sets_before.B1 = true := by kernel_rfl
set_option maxHeartbeats 8000000 in
set_option maxRecDepth 100000 in
theorem sets_before.calls (k : Nat) (a0_0 : Int) (a0_1 : Int) (a0_2 : ByteArray) (a1_0 : Int) (a1_1 : Int) (a1_2 : ByteArray) (r : Int) (w : World) (h : sets_before.f k a0_0 a0_1 a0_2 a1_0 a1_1 a1_2 = some r) :
  Calls Tryz.prog 64 #[.agg #[.int .i64 a0_0, .int .i64 a0_1, .string a0_2], .agg #[.int .i64 a1_0, .int .i64 a1_1, .string a1_2]] w fun e w' => e = .returned (.int .i64 r) ∧ Below w.heap.size w w' := by
 have hu37 := Tryz.underlying37
 have HB := am (Below.refl w.heap.size w)
 have H : ((cmp_Compare_int.f a0_0 a1_0).bind fun t174 => ((cmp_Compare_int.f a0_1 a1_1).bind fun t175 => ((strings_Compare.f a0_2 a1_2).bind fun t176 => ((cmp_Or_int.f k (([t174, t175, t176] : List Int))).bind fun t180 => (some t180))))) = some r := h
 clear h
 replace H := Option.bind_eq_some_iff.mp H
 obtain ⟨t174, A30, H⟩ := H
 replace H : ((cmp_Compare_int.f a0_1 a1_1).bind fun t175 => ((strings_Compare.f a0_2 a1_2).bind fun t176 => ((cmp_Or_int.f k (([t174, t175, t176] : List Int))).bind fun t180 => (some t180)))) = some r := H
 have A3 := am A30
 clear A30
 replace H := Option.bind_eq_some_iff.mp H
 obtain ⟨t175, A40, H⟩ := H
 replace H : ((strings_Compare.f a0_2 a1_2).bind fun t176 => ((cmp_Or_int.f k (([t174, t175, t176] : List Int))).bind fun t180 => (some t180))) = some r := H
 have A4 := am A40
 clear A40
 replace H := Option.bind_eq_some_iff.mp H
 obtain ⟨t176, A50, H⟩ := H
 replace H : ((cmp_Or_int.f k (([t174, t175, t176] : List Int))).bind fun t180 => (some t180)) = some r := H
 have A5 := am A50
 clear A50
 obtain ⟨y177, hy177⟩ : ∃ y_ : List Int, y_ = (([t174, t175, t176] : List Int)) := ⟨_, rfl⟩
 replace H : ((cmp_Or_int.f k y177).bind fun t180 => (some t180)) = some r := by first | (rw [hy177]; with_reducible exact H) | (have H2_ := (Option.bind_some _ _).symm.trans H; rw [hy177]; with_reducible exact H2_) | (have H2_ := (Option.bind_some _ _).symm.trans H; with_reducible exact H2_) | with_reducible exact H | (rw [hy177]; exact H) | exact H
 have Ny177 := am hy177
 clear hy177
 replace H := Option.bind_eq_some_iff.mp H
 obtain ⟨t180, A60, H⟩ := H
 replace H : (some t180) = some r := H
 have A6 := am A60
 clear A60
 obtain rfl := Option.some.inj H
 go_enter Tryz.func64, Tryz.ntmps64
 try go_wp2_with (first | ((with_reducible refine gate_dst (N := 2) rfl ?_); refine box_event rfl (N := 2) rfl (cs := #[.int .i64 a0_0, .int .i64 a0_1, .string a0_2]) (t := 37) gs ?_; intro gb172 hg w7 hbox hb; have BK172 := am (hbox); have GW172 := gw hg HB; have GE172 := gw hg HB; replace HB := sb HB hb; clear hb hbox hg) | ((with_reducible refine gate_dst (N := 3) rfl ?_); refine box_event rfl (N := 3) rfl (cs := #[.int .i64 a1_0, .int .i64 a1_1, .string a1_2]) (t := 37) gs ?_; intro gb173 hg w8 hbox hb; have BK173 := am (hbox); have GW173 := gw hg HB; have GE173 := gw hg HB; have NB172_173 := am ((by rw [hg]; exact Nat.ne_of_lt (blk_lt (bk BK172)) : gb172 ≠ gb173)); have NB173_172 := am ((by rw [hg]; exact Nat.ne_of_gt (blk_lt (bk BK172)) : gb173 ≠ gb172)); replace BK172 := kb BK172 hb; replace HB := sb HB hb; clear hb hbox hg))
 have n0_ := am (blk_drew BK172.out)
 have n1_ := am (blk_drew BK173.out)
 have n2_ := am (below_drew1 HB.out)
 clear BK172
 clear BK173
 clear HB
 have BK172 := n0_
 have BK173 := n1_
 have HB := n2_
 clear n0_ n1_ n2_
 refine start_ (n := 18) (S := fun w' => w'.cell? ⟨gb172, 0, none⟩ = some (.int .i64 a0_0) ∧ w'.cell? ⟨gb172, 1, none⟩ = some (.int .i64 a0_1) ∧ w'.cell? ⟨gb172, 2, none⟩ = some (.string a0_2) ∧ w'.cell? ⟨gb173, 0, none⟩ = some (.int .i64 a1_0) ∧ w'.cell? ⟨gb173, 1, none⟩ = some (.int .i64 a1_1) ∧ w'.cell? ⟨gb173, 2, none⟩ = some (.string a1_2)) (ds := []) (bb 0 18) (by kernel_rfl) rfl rfl ⟨(blk_cell BK172.out 0).trans rfl, (blk_cell BK172.out 1).trans rfl, (blk_cell BK172.out 2).trans rfl, (blk_cell BK173.out 0).trans rfl, (blk_cell BK173.out 1).trans rfl, (blk_cell BK173.out 2).trans rfl⟩ (fun hHeld => ?_); refine with_tabW sets_before.tab1 sets_before.bits1 (fun HT_ HW_ => ?_)
 generalize w8.drew = w9 at BK172 BK173 HB hHeld ⊢
 refine pu HT_ 0 (some 5) (bb 1 18) ?_
 refine pu HT_ 2 (some 7) (bs 18 5) ?_
 refine pu HT_ 5 (some 10) (bs 18 37) ?_
 refine pu HT_ 7 (some 12) (bs 18 165) ?_
 refine pu HT_ 10 (some 15) (bs 18 1189) ?_
 refine pu HT_ 12 (some 17) (bs 18 5285) ?_
 refine tk HT_ HW_ hHeld 1 (some 6) (bs 18 5287) ?_
 refine tk HT_ HW_ hHeld 3 (some 8) (bs 18 5295) ?_
 refine tk HT_ HW_ hHeld 6 (some 11) (bs 18 5359) ?_
 refine tk HT_ HW_ hHeld 8 (some 13) (bs 18 5615) ?_
 refine tk HT_ HW_ hHeld 11 (some 16) (bs 18 7663) ?_
 refine tk HT_ HW_ hHeld 13 (some 18) (bs 18 15855) ?_
 refine one_ (i := 4) (N := some 9) (bs 18 15871) rfl rfl (one_of HT_.out (by kernel_rfl)) (by decide) (fun K hK => ?_)
 refine goes_ Tryz.func50 (by kernel_rfl) rfl #[.int .i64 a0_0, .int .i64 a1_0] (by rfl) rfl rfl ar ?_
 with_reducible refine (cmp_Compare_int.calls a0_0 a1_0 t174 _ A3.out).mono ?_
 rintro e w' ⟨rfl, ⟨nd, rfl⟩⟩
 refine ⟨_, rfl, ?_⟩
 refine hK.out _ _ ⟨(blk_cell BK172.out 0).trans rfl, (blk_cell BK172.out 1).trans rfl, (blk_cell BK172.out 2).trans rfl, (blk_cell BK173.out 0).trans rfl, (blk_cell BK173.out 1).trans rfl, (blk_cell BK173.out 2).trans rfl⟩ (fun hHeld => ?_)
 clear hK K
 refine norm_ (a' := ?_) ?_ ?_
 rotate_left
 ·show Act.put _ (some 9) _ = _
  simp only [Act.put, List.setIfInBounds_toArray, List.set_cons_zero, List.set_cons_succ, i64_w, i32_w]
  rfl
 refine one_ (i := 9) (N := some 14) (bb 14 18) rfl rfl (one_of HT_.out (by kernel_rfl)) (by decide) (fun K hK => ?_)
 refine goes_ Tryz.func50 (by kernel_rfl) rfl #[.int .i64 a0_1, .int .i64 a1_1] (by rfl) rfl rfl ar ?_
 with_reducible refine (cmp_Compare_int.calls a0_1 a1_1 t175 _ A4.out).mono ?_
 rintro e w' ⟨rfl, ⟨nd, rfl⟩⟩
 refine ⟨_, rfl, ?_⟩
 refine hK.out _ _ ⟨(blk_cell BK172.out 0).trans rfl, (blk_cell BK172.out 1).trans rfl, (blk_cell BK172.out 2).trans rfl, (blk_cell BK173.out 0).trans rfl, (blk_cell BK173.out 1).trans rfl, (blk_cell BK173.out 2).trans rfl⟩ (fun hHeld => ?_)
 clear hK K
 refine norm_ (a' := ?_) ?_ ?_
 rotate_left
 ·show Act.put _ (some 14) _ = _
  simp only [Act.put, List.setIfInBounds_toArray, List.set_cons_zero, List.set_cons_succ, i64_w, i32_w]
  rfl
 refine one_ (i := 14) (N := some 19) (bb 15 18) rfl rfl (one_of HT_.out (by kernel_rfl)) (by decide) (fun K hK => ?_)
 refine goes_ Tryz.func74 (by kernel_rfl) rfl #[.string a0_2, .string a1_2] (by rfl) rfl rfl ar ?_
 with_reducible refine (strings_Compare.calls a0_2 a1_2 t176 _ A5.out).mono ?_
 rintro e w' ⟨rfl, ⟨nd, rfl⟩⟩
 refine ⟨_, rfl, ?_⟩
 refine hK.out _ _ ⟨(blk_cell BK172.out 0).trans rfl, (blk_cell BK172.out 1).trans rfl, (blk_cell BK172.out 2).trans rfl, (blk_cell BK173.out 0).trans rfl, (blk_cell BK173.out 1).trans rfl, (blk_cell BK173.out 2).trans rfl⟩ (fun hHeld => ?_)
 clear hK K
 refine norm_ (a' := ?_) ?_ ?_
 rotate_left
 ·show Act.put _ (some 19) _ = _
  simp only [Act.put, List.setIfInBounds_toArray, List.set_cons_zero, List.set_cons_succ, i64_w, i32_w]
  rfl
 refine one_ (i := 15) (N := some 20) (bb 16 18) rfl rfl (one_of HT_.out (by kernel_rfl)) (by decide) (fun K hK => ?_)
 refine Kd.R_lit_step (Kd.int .i64) _ 3 ?hg (N := 20) ?hd (xs := ([t174, t175, t176] : List Int)) (inner := [.int .i64 t174, .int .i64 t175, .int .i64 t176]) (ok := fun _ => True) (okp := fun _ => True) ?hr ?hp (fun _ hk => hk) trivial (Below.refl _ _) (Nat.le_refl _) (by simp) ?_; (case hd => rfl); (case hg => rfl); (case hr => first | (go_simp; done) | (go_simp; rfl)); (case hp => exact (Reps.one (show Kd.M (Kd.int .i64) _ _ _ t174 [.int .i64 t174] from rfl) (Reps.one (show Kd.M (Kd.int .i64) _ _ _ t175 [.int .i64 t175] from rfl) (Reps.one (show Kd.M (Kd.int .i64) _ _ _ t176 [.int .i64 t176] from rfl) (Reps.none _ _)))))
 intro v178 w10 ho11 hb hg_ hnew_
 clear hg_ hnew_
 (first | rw [← Ny177.out] at ho11 | (simp only [Int.reduceToNat] at ho11; rw [← Ny177.out] at ho11))
 have n0_ := am (Kd.R_lower ho11 (below_size (bl HB)))
 have n1_ := kb BK172 hb
 have n2_ := kb BK173 hb
 have n3_ := sb HB hb
 clear BK172
 clear BK173
 clear HB
 have HO179 := n0_
 have BK172 := n1_
 have BK173 := n2_
 have HB := n3_
 clear n0_ n1_ n2_ n3_
 clear hb ho11
 obtain ⟨Ao12, co12, eo12⟩ := Kd.R_slice HO179.out
 (first | subst eo12 | (injection eo12 with f1_ f2_ f3_; have f4_ := f1_.symm; have f5_ := f3_.symm; clear f1_ f2_ f3_; subst f4_; subst f5_))
 refine hK.out _ _ ⟨(blk_cell BK172.out 0).trans rfl, (blk_cell BK172.out 1).trans rfl, (blk_cell BK172.out 2).trans rfl, (blk_cell BK173.out 0).trans rfl, (blk_cell BK173.out 1).trans rfl, (blk_cell BK173.out 2).trans rfl⟩ (fun hHeld => ?_)
 clear hK K
 refine norm_ (a' := ?_) ?_ ?_
 rotate_left
 ·show Act.put _ (some 20) _ = _
  simp only [Act.put, List.setIfInBounds_toArray, List.set_cons_zero, List.set_cons_succ, i64_w, i32_w]
  rfl
 refine one_ (i := 16) (N := some 21) (bb 17 18) rfl rfl (one_of HT_.out (by kernel_rfl)) (by decide) (fun K hK => ?_)
 refine goes_ Tryz.func49 (by kernel_rfl) rfl #[.slice Ao12 y177.length co12] (by rfl) rfl rfl ar ?_
 with_reducible refine (cmp_Or_int.calls k _ _ y177 t180 _ ?side1 ?side2 A6.out).mono ?_
 (case side1 => repeat (first | exact (Kd.R_reads' HO179.out).2.2 | (with_reducible refine Kd.C_alloc ?_ _) | (with_reducible refine Kd.C_drewN ?_ _) | (with_reducible refine Kd.C_drew ?_)))
 (case side2 => exact (Kd.R_reads' HO179.out).2.1)
 rintro e w' ⟨rfl, ⟨nd, rfl⟩⟩
 refine ⟨_, rfl, ?_⟩
 refine hK.out _ _ ⟨(blk_cell BK172.out 0).trans rfl, (blk_cell BK172.out 1).trans rfl, (blk_cell BK172.out 2).trans rfl, (blk_cell BK173.out 0).trans rfl, (blk_cell BK173.out 1).trans rfl, (blk_cell BK173.out 2).trans rfl⟩ (fun hHeld => ?_)
 clear hK K
 refine norm_ (a' := ?_) ?_ ?_
 rotate_left
 ·show Act.put _ (some 21) _ = _
  simp only [Act.put, List.setIfInBounds_toArray, List.set_cons_zero, List.set_cons_succ, i64_w, i32_w]
  rfl
 refine pu HT_ 17 (some 4) (bb 18 18) ?_
 refine done_ (done_of HT_.out (by kernel_rfl)) ?_
 try go_wp2
 go_ret
 exact ⟨er, bl HB⟩
def sets_may.f (a0 : Int) (a1 : Int) : Option (Bool) := if a0 ≥ 0 then (some (decide (a1 ≥ (-1)))) else (some false)
set_option maxHeartbeats 8000000 in
set_option maxRecDepth 100000 in
theorem sets_may.calls (a0 : Int) (a1 : Int) (r : Bool) (w : World) (h : sets_may.f a0 a1 = some r) :
  Calls Tryz.prog 24 #[.int .i64 a0, .int .i64 a1] w fun e w' => e = .returned (.bool r) ∧ Drawn0 w w' := by
 have H : (if a0 ≥ 0 then (some (decide (a1 ≥ (-1)))) else (some false)) = some r := h
 clear h
 by_cases c3 : a0 ≥ 0
 ·rw [if_pos c3] at H
  have c3b0 : decide (0 ≤ a0) = true := decide_eq_true c3
  clear c3
  obtain rfl := Option.some.inj H
  go_enter Tryz.func24, Tryz.ntmps24
  go_wp2
  go_ret
  exact ⟨eb, by repeat (first | exact Drawn0.refl _ | apply Drawn0.step)⟩
 ·rw [if_neg c3] at H
  have c3b0 : decide (0 ≤ a0) = false := decide_eq_false c3
  clear c3
  obtain rfl := Option.some.inj H
  go_enter Tryz.func24, Tryz.ntmps24
  go_wp2
  go_ret
  exact ⟨eb, by repeat (first | exact Drawn0.refl _ | apply Drawn0.step)⟩
def sets_size.f (l0_0 : List (S37)) (l0_1 : List (S46)) (l0_2 : List (S37)) : Option (Int) := some (wrap64 ((wrap64 ((l0_0.length : Int) + (l0_1.length : Int))) + (l0_2.length : Int)))
set_option maxHeartbeats 8000000 in
set_option maxRecDepth 100000 in
theorem sets_size.calls (A0_0 : Option Addr) (c0_0 : Nat) (l0_0 : List (S37)) (A0_1 : Option Addr) (c0_1 : Nat) (l0_1 : List (S46)) (A0_2 : Option Addr) (c0_2 : Nat) (l0_2 : List (S37)) (r : Int) (w : World) (hr0_0 : Kd.C k37 w A0_0 l0_0.length l0_0) (hc0_0 : l0_0.length ≤ c0_0) (hr0_1 : Kd.C k46 w A0_1 l0_1.length l0_1) (hc0_1 : l0_1.length ≤ c0_1) (hr0_2 : Kd.C k37 w A0_2 l0_2.length l0_2) (hc0_2 : l0_2.length ≤ c0_2) (h : sets_size.f l0_0 l0_1 l0_2 = some r) :
  Calls Tryz.prog 25 #[.agg #[.slice A0_0 l0_0.length c0_0, .slice A0_1 l0_1.length c0_1, .slice A0_2 l0_2.length c0_2]] w fun e w' => e = .returned (.int .i64 r) ∧ Below w.heap.size w w' := by
 have hu25 := Tryz.underlying25
 have HR0_0 := am hr0_0
 have HC0_0 := am hc0_0
 clear hr0_0 hc0_0
 have HR0_1 := am hr0_1
 have HC0_1 := am hc0_1
 clear hr0_1 hc0_1
 have HR0_2 := am hr0_2
 have HC0_2 := am hc0_2
 clear hr0_2 hc0_2
 have HB := am (Below.refl w.heap.size w)
 have H : (some (wrap64 ((wrap64 ((l0_0.length : Int) + (l0_1.length : Int))) + (l0_2.length : Int)))) = some r := h
 clear h
 obtain rfl := Option.some.inj H
 go_enter Tryz.func25, Tryz.ntmps25
 go_wp2_with (first | ((with_reducible refine gate_dst (N := 1) rfl ?_); refine box_event rfl (N := 1) rfl (cs := #[.slice A0_0 l0_0.length c0_0, .slice A0_1 l0_1.length c0_1, .slice A0_2 l0_2.length c0_2]) (t := 25) gs ?_; intro gb181 hg w2 hbox hb; have BK181 := am (hbox); have GW181 := gw hg HB; have GE181 := gw hg HB; replace HB := sb HB hb; clear hb hbox hg; obtain ⟨Z3_0, Z3_1, Z3_2, Y3_0, Y3_1, Y3_2⟩ := bq3 BK181))
 go_ret
 exact ⟨er, bl HB⟩
def code_Has.f (a0_0 : ByteArray) (a0_1 : ByteArray) (a0_2 : Bool) (a1 : ByteArray) : Option (Bool) := if ((Op.bytesLess a1.toList a0_0.toList) = true) then (some false) else (if a0_2 = true then (some true) else (some (Op.bytesLess a1.toList a0_1.toList)))
set_option maxHeartbeats 8000000 in
set_option maxRecDepth 100000 in
theorem code_Has.calls (a0_0 : ByteArray) (a0_1 : ByteArray) (a0_2 : Bool) (a1 : ByteArray) (r : Bool) (w : World) (h : code_Has.f a0_0 a0_1 a0_2 a1 = some r) :
  Calls Tryz.prog 36 #[.agg #[.string a0_0, .string a0_1, .bool a0_2], .string a1] w fun e w' => e = .returned (.bool r) ∧ Below w.heap.size w w' := by
 have hu44 := Tryz.underlying44
 have HB := am (Below.refl w.heap.size w)
 have H : (if ((Op.bytesLess a1.toList a0_0.toList) = true) then (some false) else (if a0_2 = true then (some true) else (some (Op.bytesLess a1.toList a0_1.toList)))) = some r := h
 clear h
 by_cases c3 : ((Op.bytesLess a1.toList a0_0.toList) = true)
 ·rw [if_pos c3] at H
  have c3b0 : (Op.bytesLess a1.toList a0_0.toList) = true := c3
  clear c3
  obtain rfl := Option.some.inj H
  go_enter Tryz.func36, Tryz.ntmps36
  go_wp2_with (first | ((with_reducible refine gate_dst (N := 2) rfl ?_); refine box_event rfl (N := 2) rfl (cs := #[.string a0_0, .string a0_1, .bool a0_2]) (t := 44) gs ?_; intro gb182 hg w4 hbox hb; have BK182 := am (hbox); have GW182 := gw hg HB; have GE182 := gw hg HB; replace HB := sb HB hb; clear hb hbox hg; obtain ⟨Z5_0, Z5_1, Z5_2, Y5_0, Y5_1, Y5_2⟩ := bq3 BK182))
  go_ret
  exact ⟨er, bl HB⟩
 ·rw [if_neg c3] at H
  have c3b0 : (Op.bytesLess a1.toList a0_0.toList) = false := by simpa using c3
  clear c3
  by_cases c6 : a0_2 = true
  ·subst c6
   have H1 : (some true) = some r := by rw [if_pos rfl] at H; exact H
   clear H
   have H := H1
   clear H1
   obtain rfl := Option.some.inj H
   go_enter Tryz.func36, Tryz.ntmps36
   go_wp2_with (first | ((with_reducible refine gate_dst (N := 2) rfl ?_); refine box_event rfl (N := 2) rfl (cs := #[.string a0_0, .string a0_1, .bool true]) (t := 44) gs ?_; intro gb182 hg w7 hbox hb; have BK182 := am (hbox); have GW182 := gw hg HB; have GE182 := gw hg HB; replace HB := sb HB hb; clear hb hbox hg; obtain ⟨Z8_0, Z8_1, Z8_2, Y8_0, Y8_1, Y8_2⟩ := bq3 BK182))
   go_ret
   exact ⟨er, bl HB⟩
  ·replace c6 := Bool.eq_false_iff.mpr c6
   subst c6
   have H1 : (some (Op.bytesLess a1.toList a0_1.toList)) = some r := by rw [if_neg (show ¬ (false = true) by decide)] at H; exact H
   clear H
   have H := H1
   clear H1
   obtain rfl := Option.some.inj H
   go_enter Tryz.func36, Tryz.ntmps36
   go_wp2_with (first | ((with_reducible refine gate_dst (N := 2) rfl ?_); refine box_event rfl (N := 2) rfl (cs := #[.string a0_0, .string a0_1, .bool false]) (t := 44) gs ?_; intro gb182 hg w9 hbox hb; have BK182 := am (hbox); have GW182 := gw hg HB; have GE182 := gw hg HB; replace HB := sb HB hb; clear hb hbox hg; obtain ⟨Z10_0, Z10_1, Z10_2, Y10_0, Y10_1, Y10_2⟩ := bq3 BK182))
   go_ret
   exact ⟨er, bl HB⟩
def code_Empty.f (a0_0 : ByteArray) (a0_1 : ByteArray) (a0_2 : Bool) : Option (Bool) := if a0_2 = true then (some false) else (some (!(Op.bytesLess a0_0.toList a0_1.toList)))
set_option maxHeartbeats 8000000 in
set_option maxRecDepth 100000 in
theorem code_Empty.calls (a0_0 : ByteArray) (a0_1 : ByteArray) (a0_2 : Bool) (r : Bool) (w : World) (h : code_Empty.f a0_0 a0_1 a0_2 = some r) :
  Calls Tryz.prog 71 #[.agg #[.string a0_0, .string a0_1, .bool a0_2]] w fun e w' => e = .returned (.bool r) ∧ Below w.heap.size w w' := by
 have hu44 := Tryz.underlying44
 have HB := am (Below.refl w.heap.size w)
 have H : (if a0_2 = true then (some false) else (some (!(Op.bytesLess a0_0.toList a0_1.toList)))) = some r := h
 clear h
 by_cases c2 : a0_2 = true
 ·subst c2
  have H1 : (some false) = some r := by rw [if_pos rfl] at H; exact H
  clear H
  have H := H1
  clear H1
  obtain rfl := Option.some.inj H
  go_enter Tryz.func71, Tryz.ntmps71
  go_wp2_with (first | ((with_reducible refine gate_dst (N := 1) rfl ?_); refine box_event rfl (N := 1) rfl (cs := #[.string a0_0, .string a0_1, .bool true]) (t := 44) gs ?_; intro gb183 hg w3 hbox hb; have BK183 := am (hbox); have GW183 := gw hg HB; have GE183 := gw hg HB; replace HB := sb HB hb; clear hb hbox hg; obtain ⟨Z4_0, Z4_1, Z4_2, Y4_0, Y4_1, Y4_2⟩ := bq3 BK183))
  go_ret
  exact ⟨er, bl HB⟩
 ·replace c2 := Bool.eq_false_iff.mpr c2
  subst c2
  have H1 : (some (!(Op.bytesLess a0_0.toList a0_1.toList))) = some r := by rw [if_neg (show ¬ (false = true) by decide)] at H; exact H
  clear H
  have H := H1
  clear H1
  obtain rfl := Option.some.inj H
  go_enter Tryz.func71, Tryz.ntmps71
  go_wp2_with (first | ((with_reducible refine gate_dst (N := 1) rfl ?_); refine box_event rfl (N := 1) rfl (cs := #[.string a0_0, .string a0_1, .bool false]) (t := 44) gs ?_; intro gb183 hg w5 hbox hb; have BK183 := am (hbox); have GW183 := gw hg HB; have GE183 := gw hg HB; replace HB := sb HB hb; clear hb hbox hg; obtain ⟨Z6_0, Z6_1, Z6_2, Y6_0, Y6_1, Y6_2⟩ := bq3 BK183))
  go_ret
  exact ⟨er, bl HB⟩
def api_Point_63.l0 : Nat → List (S37) → Int → Int → Int → Int → ByteArray → Option (Int)
 | 0, _, _, _, _, _, _ => none
 | k + 1, x0, x7, x8, x185000, x185001, x185002 => if x8 < x7 then (if 0 ≤ x8 then (if x8 < (x0.length : Int) then (if (x185000 == ((rd_T37 x0 x8).f0) && (x185001 == ((rd_T37 x0 x8).f1) && (x185002.toList == (((rd_T37 x0 x8).f2).toList)))) = true then (some x8) else (api_Point_63.l0 k x0 x7 (wrap64 (x8 + 1)) x185000 x185001 x185002)) else (none)) else (none)) else (some (-1))
def api_Point_63.f (k : Nat) (l0 : List (S37)) (a1_0 : Int) (a1_1 : Int) (a1_2 : ByteArray) : Option (Int) := api_Point_63.l0 k l0 (l0.length : Int) 0 a1_0 a1_1 a1_2
set_option maxHeartbeats 8000000 in
set_option maxRecDepth 100000 in
theorem api_Point_63.calls (k : Nat) (A0 : Option Addr) (c0 : Nat) (l0 : List (S37)) (a1_0 : Int) (a1_1 : Int) (a1_2 : ByteArray) (r : Int) (w : World) (hr0 : Kd.C k37 w A0 l0.length l0) (hc0 : l0.length ≤ c0) (h : api_Point_63.f k l0 a1_0 a1_1 a1_2 = some r) :
  Calls Tryz.prog 63 #[.slice A0 l0.length c0, .agg #[.int .i64 a1_0, .int .i64 a1_1, .string a1_2]] w fun e w' => e = .returned (.int .i64 r) ∧ Below w.heap.size w w' := by
 have hu37 := Tryz.underlying37
 have HR0 := am hr0
 have HC0 := am hc0
 clear hr0 hc0
 have HB := am (Below.refl w.heap.size w)
 have H : (api_Point_63.l0 k l0 (l0.length : Int) 0 a1_0 a1_1 a1_2) = some r := h
 clear h
 have H' := am H
 clear H
 go_enter Tryz.func63, Tryz.ntmps63
 go_wp2_with (first | ((with_reducible refine gate_dst (N := 3) rfl ?_); refine box_event rfl (N := 3) rfl (cs := #[.int .i64 a1_0, .int .i64 a1_1, .string a1_2]) (t := 37) gs ?_; intro gb184 hg w3 hbox hb; have BK184 := am (hbox); have GW184 := gw hg HB; have GE184 := gw hg HB; replace HB := sb HB hb; clear hb hbox hg))
 repeat (go_quiet (fail); try go_wp2_with (first | ((with_reducible refine gate_dst (N := 3) rfl ?_); refine box_event rfl (N := 3) rfl (cs := #[.int .i64 a1_0, .int .i64 a1_1, .string a1_2]) (t := 37) gs ?_; intro gb184 hg w3 hbox hb; have BK184 := am (hbox); have GW184 := gw hg HB; have GE184 := gw hg HB; replace HB := sb HB hb; clear hb hbox hg)))
 go_loopg [8] k (fun kq v8 w' => ∃ (x8_1 : Int), v8 = .int .i64 x8_1 ∧ Aside0 (api_Point_63.l0 kq l0 (l0.length : Int) x8_1 a1_0 a1_1 a1_2 = some r) ∧ Aside0 (kq ≤ k) ∧ Aside0 (w'.heap[gb184]? = some (.cells #[.int .i64 a1_0, .int .i64 a1_1, .string a1_2] 37 (0, 0))) ∧ Aside0 (Below w.heap.size w w'))
 case atStart => exact ⟨(0), eb, H', ⟨Nat.le_refl _⟩, ⟨bk BK184⟩, ⟨bl HB⟩⟩
 case round =>
  clear H'
  try clear p2
  obtain ⟨x8_1, rfl, HA, HK1, BK184, HB⟩ := hrel
  cases gk with
  | zero => exact absurd HA.out (by simp [api_Point_63.l0])
  | succ k1 =>
   have H := HA.out
   clear HA
   simp only [api_Point_63.l0] at H
   by_cases c4 : x8_1 < (l0.length : Int)
   ·rw [if_pos c4] at H
    have c4b0 : decide (x8_1 < (l0.length : Int)) = true := decide_eq_true c4
    clear c4
    by_cases c5 : 0 ≤ x8_1
    ·rw [if_pos c5] at H
     have c5b0 : decide (0 ≤ x8_1) = true := decide_eq_true c5
     clear c5
     by_cases c6 : x8_1 < (l0.length : Int)
     ·rw [if_pos c6] at H
      have c6b0 : decide (x8_1 < (l0.length : Int)) = true := decide_eq_true c6
      clear c6
      by_cases c7 : (a1_0 == ((rd_T37 l0 x8_1).f0) && (a1_1 == ((rd_T37 l0 x8_1).f1) && (a1_2.toList == (((rd_T37 l0 x8_1).f2).toList)))) = true
      ·rw [if_pos c7] at H
       have c7b0 : (a1_0 == ((rd_T37 l0 x8_1).f0) && (a1_1 == ((rd_T37 l0 x8_1).f1) && (a1_2.toList == (((rd_T37 l0 x8_1).f2).toList)))) = true := c7
       (try (have c7b1 : decide (a1_0 = ((rd_T37 l0 x8_1).f0) && (a1_1 == ((rd_T37 l0 x8_1).f1) && (a1_2.toList == (((rd_T37 l0 x8_1).f2).toList)))) = true := by simpa using c7))
       (try (have c7b2 : (a1_0 == ((rd_T37 l0 x8_1).f0) && (a1_1 == ((rd_T37 l0 x8_1).f1) && (a1_2.toList == (((rd_T37 l0 x8_1).f2).toList)))) = true := by simpa using c7))
       clear c7
       obtain rfl := Option.some.inj H
       obtain ⟨Z8_0, Z8_1, Z8_2, Y8_0, Y8_1, Y8_2⟩ := bq3 BK184
       have p185 : 0 ≤ (x8_1 : Int) := oda
       have q185 : x8_1 < (l0.length : Int) := oda
       obtain ⟨ad185, e185, hx185_0, hx185_1, hx185_2⟩ := at_T37 HR0.out x8_1 p185 q185
       cases e185
       replace hx185_0 := hc HB hx185_0
       replace hx185_1 := hc HB hx185_1
       replace hx185_2 := hc HB hx185_2
       replace p185 := eq_true p185
       replace q185 := eq_true q185
       go_wp2
       repeat (go_quiet (fail); try go_wp2)
       go_ret
       exact ⟨er, bl HB⟩
      ·rw [if_neg c7] at H
       have c7b0 : (a1_0 == ((rd_T37 l0 x8_1).f0) && (a1_1 == ((rd_T37 l0 x8_1).f1) && (a1_2.toList == (((rd_T37 l0 x8_1).f2).toList)))) = false := by simpa using c7
       (try (have c7b1 : decide (a1_0 = ((rd_T37 l0 x8_1).f0) && (a1_1 == ((rd_T37 l0 x8_1).f1) && (a1_2.toList == (((rd_T37 l0 x8_1).f2).toList)))) = false := by simpa using c7))
       (try (have c7b2 : (a1_0 == ((rd_T37 l0 x8_1).f0) && (a1_1 == ((rd_T37 l0 x8_1).f1) && (a1_2.toList == (((rd_T37 l0 x8_1).f2).toList)))) = false := by simpa using c7))
       (try (have c7b3 : ¬ (a1_0 = ((rd_T37 l0 x8_1).f0) && (a1_1 == ((rd_T37 l0 x8_1).f1) && (a1_2.toList == (((rd_T37 l0 x8_1).f2).toList)))) := by simpa using c7))
       clear c7
       have H' := am H
       clear H
       obtain ⟨Z9_0, Z9_1, Z9_2, Y9_0, Y9_1, Y9_2⟩ := bq3 BK184
       have p185 : 0 ≤ (x8_1 : Int) := oda
       have q185 : x8_1 < (l0.length : Int) := oda
       obtain ⟨ad185, e185, hx185_0, hx185_1, hx185_2⟩ := at_T37 HR0.out x8_1 p185 q185
       cases e185
       replace hx185_0 := hc HB hx185_0
       replace hx185_1 := hc HB hx185_1
       replace hx185_2 := hc HB hx185_2
       replace p185 := eq_true p185
       replace q185 := eq_true q185
       go_wp2
       repeat (go_quiet (fail); try go_wp2)
       go_roundg k1
       case measure => have := HK1.out; omega
       case rel => exact ⟨(wrap64 (x8_1 + 1)), eb, H', ⟨by have := HK1.out; omega⟩, ⟨bk BK184⟩, ⟨bl HB⟩⟩
     ·rw [if_neg c6] at H
      exact absurd H (by simp)
    ·rw [if_neg c5] at H
     exact absurd H (by simp)
   ·rw [if_neg c4] at H
    have c4b0 : decide (x8_1 < (l0.length : Int)) = false := decide_eq_false c4
    clear c4
    obtain rfl := Option.some.inj H
    go_wp2
    repeat (go_quiet (fail); try go_wp2)
    go_ret
    exact ⟨er, bl HB⟩
def api_Point_34.f (k : Nat) (l0 : List (S37)) (a1_0 : Int) (a1_1 : Int) (a1_2 : ByteArray) : Option (Bool) := (api_Point_63.f k l0 a1_0 a1_1 a1_2).bind fun t187 => (some (decide (t187 ≥ 0)))
set_option maxHeartbeats 8000000 in
set_option maxRecDepth 100000 in
theorem api_Point_34.calls (k : Nat) (A0 : Option Addr) (c0 : Nat) (l0 : List (S37)) (a1_0 : Int) (a1_1 : Int) (a1_2 : ByteArray) (r : Bool) (w : World) (hr0 : Kd.C k37 w A0 l0.length l0) (hc0 : l0.length ≤ c0) (h : api_Point_34.f k l0 a1_0 a1_1 a1_2 = some r) :
  Calls Tryz.prog 34 #[.slice A0 l0.length c0, .agg #[.int .i64 a1_0, .int .i64 a1_1, .string a1_2]] w fun e w' => e = .returned (.bool r) ∧ Below w.heap.size w w' := by
 have hu37 := Tryz.underlying37
 have HR0 := am hr0
 have HC0 := am hc0
 clear hr0 hc0
 have HB := am (Below.refl w.heap.size w)
 have H : ((api_Point_63.f k l0 a1_0 a1_1 a1_2).bind fun t187 => (some (decide (t187 ≥ 0)))) = some r := h
 clear h
 replace H := Option.bind_eq_some_iff.mp H
 obtain ⟨t187, A30, H⟩ := H
 replace H : (some (decide (t187 ≥ 0))) = some r := H
 have A3 := am A30
 clear A30
 obtain rfl := Option.some.inj H
 go_enter Tryz.func34, Tryz.ntmps34
 go_wp2_with (first | ((with_reducible refine gate_dst (N := 3) rfl ?_); refine box_event rfl (N := 3) rfl (cs := #[.int .i64 a1_0, .int .i64 a1_1, .string a1_2]) (t := 37) gs ?_; intro gb186 hg w4 hbox hb; have BK186 := am (hbox); have GW186 := gw hg HB; have GE186 := gw hg HB; replace HB := sb HB hb; clear hb hbox hg; obtain ⟨Z5_0, Z5_1, Z5_2, Y5_0, Y5_1, Y5_2⟩ := bq3 BK186) | ((with_reducible refine gate_callee (f := 63) rfl ?_); refine goesL_ (some 7) rfl rfl Tryz.func63 (by kernel_rfl) rfl #[.slice A0 l0.length c0, .agg #[.int .i64 a1_0, .int .i64 a1_1, .string a1_2]] rfl ar ?_; (with_reducible refine (api_Point_63.calls k _ _ l0 a1_0 a1_1 a1_2 t187 _ (Kd.cb HR0 HB) HC0.out A3.out).mono ?_); rintro e w6 ⟨rfl, hb⟩; refine ⟨_, rfl, ?_⟩; replace BK186 := kb BK186 hb; replace HB := sb HB hb; (try clear hb); (try clear hb2 hk hi)))
 go_ret
 exact ⟨er, bl HB⟩
def vellumref02_Empty.f (a0_0 : ByteArray) (a0_1 : ByteArray) (a0_2 : Bool) : Option (Bool) := if a0_2 = true then (some false) else (some (!(Op.bytesLess a0_0.toList a0_1.toList)))
set_option maxHeartbeats 8000000 in
set_option maxRecDepth 100000 in
theorem vellumref02_Empty.calls (a0_0 : ByteArray) (a0_1 : ByteArray) (a0_2 : Bool) (r : Bool) (w : World) (h : vellumref02_Empty.f a0_0 a0_1 a0_2 = some r) :
  Calls Tryz.prog 79 #[.agg #[.string a0_0, .string a0_1, .bool a0_2]] w fun e w' => e = .returned (.bool r) ∧ Below w.heap.size w w' := by
 have hu44 := Tryz.underlying44
 have HB := am (Below.refl w.heap.size w)
 have H : (if a0_2 = true then (some false) else (some (!(Op.bytesLess a0_0.toList a0_1.toList)))) = some r := h
 clear h
 by_cases c2 : a0_2 = true
 ·subst c2
  have H1 : (some false) = some r := by rw [if_pos rfl] at H; exact H
  clear H
  have H := H1
  clear H1
  obtain rfl := Option.some.inj H
  go_enter Tryz.func79, Tryz.ntmps79
  go_wp2_with (first | ((with_reducible refine gate_dst (N := 1) rfl ?_); refine box_event rfl (N := 1) rfl (cs := #[.string a0_0, .string a0_1, .bool true]) (t := 44) gs ?_; intro gb188 hg w3 hbox hb; have BK188 := am (hbox); have GW188 := gw hg HB; have GE188 := gw hg HB; replace HB := sb HB hb; clear hb hbox hg; obtain ⟨Z4_0, Z4_1, Z4_2, Y4_0, Y4_1, Y4_2⟩ := bq3 BK188))
  go_ret
  exact ⟨er, bl HB⟩
 ·replace c2 := Bool.eq_false_iff.mpr c2
  subst c2
  have H1 : (some (!(Op.bytesLess a0_0.toList a0_1.toList))) = some r := by rw [if_neg (show ¬ (false = true) by decide)] at H; exact H
  clear H
  have H := H1
  clear H1
  obtain rfl := Option.some.inj H
  go_enter Tryz.func79, Tryz.ntmps79
  go_wp2_with (first | ((with_reducible refine gate_dst (N := 1) rfl ?_); refine box_event rfl (N := 1) rfl (cs := #[.string a0_0, .string a0_1, .bool false]) (t := 44) gs ?_; intro gb188 hg w5 hbox hb; have BK188 := am (hbox); have GW188 := gw hg HB; have GE188 := gw hg HB; replace HB := sb HB hb; clear hb hbox hg; obtain ⟨Z6_0, Z6_1, Z6_2, Y6_0, Y6_1, Y6_2⟩ := bq3 BK188))
  go_ret
  exact ⟨er, bl HB⟩
def vellumref02_joins.f (a0_0 : ByteArray) (a0_1 : ByteArray) (a0_2 : Bool) (a1_0 : ByteArray) (a1_1 : ByteArray) (a1_2 : Bool) : Option (Bool) := if a0_2 = true then (some true) else (some (!(Op.bytesLess a0_1.toList a1_0.toList)))
set_option maxHeartbeats 8000000 in
set_option maxRecDepth 100000 in
theorem vellumref02_joins.calls (a0_0 : ByteArray) (a0_1 : ByteArray) (a0_2 : Bool) (a1_0 : ByteArray) (a1_1 : ByteArray) (a1_2 : Bool) (r : Bool) (w : World) (h : vellumref02_joins.f a0_0 a0_1 a0_2 a1_0 a1_1 a1_2 = some r) :
  Calls Tryz.prog 80 #[.agg #[.string a0_0, .string a0_1, .bool a0_2], .agg #[.string a1_0, .string a1_1, .bool a1_2]] w fun e w' => e = .returned (.bool r) ∧ Below w.heap.size w w' := by
 have hu44 := Tryz.underlying44
 have HB := am (Below.refl w.heap.size w)
 have H : (if a0_2 = true then (some true) else (some (!(Op.bytesLess a0_1.toList a1_0.toList)))) = some r := h
 clear h
 by_cases c3 : a0_2 = true
 ·subst c3
  have H1 : (some true) = some r := by rw [if_pos rfl] at H; exact H
  clear H
  have H := H1
  clear H1
  obtain rfl := Option.some.inj H
  go_enter Tryz.func80, Tryz.ntmps80
  go_wp2_with (first | ((with_reducible refine gate_dst (N := 2) rfl ?_); refine box_event rfl (N := 2) rfl (cs := #[.string a0_0, .string a0_1, .bool true]) (t := 44) gs ?_; intro gb189 hg w4 hbox hb; have BK189 := am (hbox); have GW189 := gw hg HB; have GE189 := gw hg HB; replace HB := sb HB hb; clear hb hbox hg) | ((with_reducible refine gate_dst (N := 3) rfl ?_); refine box_event rfl (N := 3) rfl (cs := #[.string a1_0, .string a1_1, .bool a1_2]) (t := 44) gs ?_; intro gb190 hg w5 hbox hb; have BK190 := am (hbox); have GW190 := gw hg HB; have GE190 := gw hg HB; have NB189_190 := am ((by rw [hg]; exact Nat.ne_of_lt (blk_lt (bk BK189)) : gb189 ≠ gb190)); have NB190_189 := am ((by rw [hg]; exact Nat.ne_of_gt (blk_lt (bk BK189)) : gb190 ≠ gb189)); replace BK189 := kb BK189 hb; replace HB := sb HB hb; clear hb hbox hg; have hnb6 := NB189_190.out; have hnc6 := NB190_189.out; obtain ⟨Z7_0, Z7_1, Z7_2, Y7_0, Y7_1, Y7_2⟩ := bq3 BK189))
  go_ret
  exact ⟨er, bl HB⟩
 ·replace c3 := Bool.eq_false_iff.mpr c3
  subst c3
  have H1 : (some (!(Op.bytesLess a0_1.toList a1_0.toList))) = some r := by rw [if_neg (show ¬ (false = true) by decide)] at H; exact H
  clear H
  have H := H1
  clear H1
  obtain rfl := Option.some.inj H
  go_enter Tryz.func80, Tryz.ntmps80
  go_wp2_with (first | ((with_reducible refine gate_dst (N := 2) rfl ?_); refine box_event rfl (N := 2) rfl (cs := #[.string a0_0, .string a0_1, .bool false]) (t := 44) gs ?_; intro gb189 hg w8 hbox hb; have BK189 := am (hbox); have GW189 := gw hg HB; have GE189 := gw hg HB; replace HB := sb HB hb; clear hb hbox hg) | ((with_reducible refine gate_dst (N := 3) rfl ?_); refine box_event rfl (N := 3) rfl (cs := #[.string a1_0, .string a1_1, .bool a1_2]) (t := 44) gs ?_; intro gb190 hg w9 hbox hb; have BK190 := am (hbox); have GW190 := gw hg HB; have GE190 := gw hg HB; have NB189_190 := am ((by rw [hg]; exact Nat.ne_of_lt (blk_lt (bk BK189)) : gb189 ≠ gb190)); have NB190_189 := am ((by rw [hg]; exact Nat.ne_of_gt (blk_lt (bk BK189)) : gb190 ≠ gb189)); replace BK189 := kb BK189 hb; replace HB := sb HB hb; clear hb hbox hg; have hnb10 := NB189_190.out; have hnc10 := NB190_189.out; obtain ⟨Z11_0, Z11_1, Z11_2, Y11_0, Y11_1, Y11_2⟩ := bq3 BK189; obtain ⟨Z12_0, Z12_1, Z12_2, Y12_0, Y12_1, Y12_2⟩ := bq3 BK190))
  go_ret
  exact ⟨er, bl HB⟩
end Go.Proofs.YtldlenjfpjihdaaGreat.PS
end
section
namespace Go.Proofs.YtldlenjfpjihdaaGreat.PS
open Go Go.RowKit Go.Proofs Go.Proofs.YtldlenjfpjihdaaGreatW.PrintWords
set_option linter.unusedVariables false
set_option linter.unusedSimpArgs false
def Ev {α : Type} (f : Nat → Option α) (v : α) : Prop := ∃ k0, ∀ k, k0 ≤ k → f k = some v
namespace Ev
variable {α β : Type} {f g : Nat → Option α} {v : α}
theorem pure {v : α} : Ev (fun _ => some v) v := ⟨0, fun _ _ => rfl⟩
theorem bind {F : Nat → α → Option β} {b : β} (h : Ev f v) (h2 : Ev (fun k => F k v) b) : Ev (fun k => (f k).bind (F k)) b := by
  obtain ⟨k0, h⟩ := h
  obtain ⟨k1, h2⟩ := h2
  exact ⟨max k0 k1, fun k hk => by show (f k).bind (F k) = some b; rw [h k (by omega)]; exact h2 k (by omega)⟩
theorem step (h : ∀ k, f (k + 1) = g k) (hg : Ev g v) : Ev f v := by
  obtain ⟨k0, hg⟩ := hg
  refine ⟨k0 + 1, fun k hk => ?_⟩
  obtain ⟨j, rfl⟩ : ∃ j, k = j + 1 := ⟨k - 1, by omega⟩
  rw [h]; exact hg j (by omega)
theorem from_ (n : Nat) (h : ∀ k, f (k + n) = some v) : Ev f v := ⟨n, fun k hk => by have := h (k - n); rwa [Nat.sub_add_cancel hk] at this⟩
theorem congr (h : ∀ k, f k = g k) (hg : Ev g v) : Ev f v := by obtain ⟨k0, hg⟩ := hg; exact ⟨k0, fun k hk => by rw [h]; exact hg k hk⟩
theorem pos {c : Prop} [Decidable c] (hc : c) (h : Ev f v) : Ev (fun k => if c then f k else g k) v := congr (fun k => if_pos hc) h
theorem ex (h : Ev f v) : ∃ k, f k = some v := by obtain ⟨k0, h⟩ := h; exact ⟨k0, h k0 (Nat.le_refl _)⟩
end Ev
theorem wrap64_id {n : Int} (h0 : -9223372036854775808 ≤ n) (h1 : n < 9223372036854775808) : wrap64 n = n := by unfold wrap64; omega
theorem rd37 {L : List S37} {i : Nat} {x : S37} (h : L[i]? = some x) : rd_T37 L (i : Int) = x := by unfold rd_T37; simp [List.getD, h]
theorem rd46 {L : List S46} {i : Nat} {x : S46} (h : L[i]? = some x) : rd_T46 L (i : Int) = x := by unfold rd_T46; simp [List.getD, h]
def bs (a : ByteArray) : List UInt8 := a.data.toList
theorem bless_eq (a b : ByteArray) : Op.bytesLess a.toList b.toList = decide (bs a < bs b) := by
  rw [Go.Proofs.bytesLess_eq, Go.Lib.toList_data, Go.Lib.toList_data]
  rfl
theorem bs_inj {a b : ByteArray} (h : bs a = bs b) : a = b := by
  cases a; cases b
  unfold bs at h
  congr
  exact Array.toList_inj.1 h
def cmpS (a b : List UInt8) : Int := if a < b then -1 else if b < a then 1 else 0
theorem cmpB_eq : ∀ a b : List UInt8, Lib.compareBytes a b = cmpS a b
  | [], [] => rfl
  | [], _ :: _ => rfl
  | _ :: _, [] => rfl
  | x :: a, y :: b => by
    unfold Lib.compareBytes
    by_cases h1 : x < y
    · have h : x :: a < y :: b := List.cons_lt_cons_iff.2 (.inl h1)
      simp [h1, cmpS, h]
    · by_cases h2 : y < x
      · have hn : ¬ x = y := fun e => by subst e; exact h1 h2
        have h : ¬ x :: a < y :: b := fun h => (List.cons_lt_cons_iff.1 h).elim h1 (fun h => hn h.1)
        have h' : y :: b < x :: a := List.cons_lt_cons_iff.2 (.inl h2)
        simp [h1, h2, cmpS, h, h']
      · have e : x = y := UInt8.le_antisymm (UInt8.not_lt.1 h2) (UInt8.not_lt.1 h1)
        subst e
        simp only [h1, if_false, cmpB_eq a b, cmpS, List.cons_lt_cons_iff, false_or, true_and]
def cmpP (a b : S37) : Int :=
  if a.f0 = b.f0 then (if a.f1 = b.f1 then cmpS (bs a.f2) (bs b.f2) else if a.f1 < b.f1 then -1 else 1) else if a.f0 < b.f0 then -1 else 1
def ltP (a b : S37) : Prop := a.f0 < b.f0 ∨ (a.f0 = b.f0 ∧ (a.f1 < b.f1 ∨ (a.f1 = b.f1 ∧ bs a.f2 < bs b.f2)))
instance (a b : S37) : Decidable (ltP a b) := by unfold ltP; infer_instance
theorem ltP_irrefl (a : S37) : ¬ ltP a a := by
  rintro (h | ⟨_, h | ⟨_, h⟩⟩)
  · omega
  · omega
  · exact List.lt_irrefl _ h
theorem ltP_trans {a b c : S37} (h1 : ltP a b) (h2 : ltP b c) : ltP a c := by
  unfold ltP at *
  rcases h1 with h1 | ⟨e1, h1 | ⟨e2, h1⟩⟩ <;> rcases h2 with h2 | ⟨e3, h2 | ⟨e4, h2⟩⟩
  all_goals first | exact .inl (by omega) | exact .inr ⟨by omega, .inl (by omega)⟩ | exact .inr ⟨by omega, .inr ⟨by omega, List.lt_trans h1 h2⟩⟩
theorem ltP_tri (a b : S37) : ltP a b ∨ a = b ∨ ltP b a := by
  unfold ltP
  by_cases h0 : a.f0 = b.f0
  · by_cases h1 : a.f1 = b.f1
    · by_cases h2 : bs a.f2 < bs b.f2
      · exact .inl (.inr ⟨h0, .inr ⟨h1, h2⟩⟩)
      · by_cases h3 : bs b.f2 < bs a.f2
        · exact .inr (.inr (.inr ⟨h0.symm, .inr ⟨h1.symm, h3⟩⟩))
        · refine .inr (.inl ?_)
          have e := bs_inj (List.le_antisymm (List.not_lt.1 h3) (List.not_lt.1 h2))
          cases a; cases b
          simp_all
    · rcases Int.lt_or_gt_of_ne h1 with h | h
      · exact .inl (.inr ⟨h0, .inl h⟩)
      · exact .inr (.inr (.inr ⟨h0.symm, .inl h⟩))
  · rcases Int.lt_or_gt_of_ne h0 with h | h
    · exact .inl (.inl h)
    · exact .inr (.inr (.inl h))
theorem cmpP_eq (a b : S37) : cmpP a b = if ltP a b then -1 else if ltP b a then 1 else 0 := by
  by_cases h0 : a.f0 = b.f0
  · by_cases h1 : a.f1 = b.f1
    · have e1 : ltP a b ↔ bs a.f2 < bs b.f2 := ⟨fun h => h.elim (fun h => absurd h0 (by omega)) (fun h => h.2.elim (fun h => absurd h1 (by omega)) (fun h => h.2)), fun h => .inr ⟨h0, .inr ⟨h1, h⟩⟩⟩
      have e2 : ltP b a ↔ bs b.f2 < bs a.f2 := ⟨fun h => h.elim (fun h => absurd h0 (by omega)) (fun h => h.2.elim (fun h => absurd h1 (by omega)) (fun h => h.2)), fun h => .inr ⟨h0.symm, .inr ⟨h1.symm, h⟩⟩⟩
      unfold cmpP cmpS
      simp only [if_pos h0, if_pos h1, e1, e2]
    · have e1 : ltP a b ↔ a.f1 < b.f1 := ⟨fun h => h.elim (fun h => absurd h0 (by omega)) (fun h => h.2.elim id (fun h => absurd h.1 h1)), fun h => .inr ⟨h0, .inl h⟩⟩
      have e2 : ltP b a ↔ b.f1 < a.f1 := ⟨fun h => h.elim (fun h => absurd h0 (by omega)) (fun h => h.2.elim id (fun h => absurd h.1.symm h1)), fun h => .inr ⟨h0.symm, .inl h⟩⟩
      unfold cmpP
      simp only [if_pos h0, if_neg h1, e1, e2]
      repeat' split
      all_goals omega
  · have e1 : ltP a b ↔ a.f0 < b.f0 := ⟨fun h => h.elim id (fun h => absurd h.1 h0), .inl⟩
    have e2 : ltP b a ↔ b.f0 < a.f0 := ⟨fun h => h.elim id (fun h => absurd h.1.symm h0), .inl⟩
    unfold cmpP
    simp only [if_neg h0, e1, e2]
    repeat' split
    all_goals omega
theorem cmpP_lt (a b : S37) : cmpP a b < 0 ↔ ltP a b := by
  rw [cmpP_eq]
  by_cases h : ltP a b
  · simp [h]
  · by_cases h2 : ltP b a
    · simp [h, h2]
    · simp [h, h2]
theorem cmpP_zero (a b : S37) : cmpP a b = 0 ↔ a = b := by
  rw [cmpP_eq]
  by_cases h : ltP a b
  · simp only [h, if_true]
    exact ⟨fun e => by omega, fun e => by subst e; exact absurd h (ltP_irrefl a)⟩
  · by_cases h2 : ltP b a
    · simp only [h, h2, if_true, if_false]
      exact ⟨fun e => by omega, fun e => by subst e; exact absurd h2 (ltP_irrefl a)⟩
    · simp only [h, h2, if_false, true_iff]
      rcases ltP_tri a b with h3 | h3 | h3
      · exact absurd h3 h
      · exact h3
      · exact absurd h3 h2
theorem strings_eq (a b : ByteArray) : vellumref01_Strings.f a b = some (cmpS (bs a) (bs b)) := by
  unfold vellumref01_Strings.f cmpS
  rw [bless_eq, bless_eq]
  by_cases h : bs a < bs b
  · simp [h]
  · by_cases h2 : bs b < bs a <;> simp [h, h2]
theorem cmp_eq (a b : S37) : vellumref17_Cmp.f a.f0 a.f1 a.f2 b.f0 b.f1 b.f2 = some (cmpP a b) := by
  unfold vellumref17_Cmp.f cmpP
  rw [strings_eq, Option.bind_some]
  repeat' split
  all_goals rfl
theorem cmpI_eq (a b : Int) : cmp_Compare_int.f a b = some (if a < b then -1 else if b < a then 1 else 0) := by
  unfold cmp_Compare_int.f cmp_isNaN_int.f
  simp only [bne_self_eq_false, Option.bind_some, Bool.false_eq_true, if_false]
  repeat' split
  all_goals rfl
theorem or3_ev (a b c : Int) : Ev (fun k => cmp_Or_int.f k [a, b, c]) (if a = 0 then (if b = 0 then c else b) else a) := by
  refine Ev.from_ 4 (fun k => ?_)
  have e1 : wrap64 (0 + 1) = 1 := wrap64_id (by decide) (by decide)
  have e2 : wrap64 (1 + 1) = 2 := wrap64_id (by decide) (by decide)
  have e3 : wrap64 (2 + 1) = 3 := wrap64_id (by decide) (by decide)
  have r0 : rd [a, b, c] 0 = a := rfl
  have r1 : rd [a, b, c] 1 = b := rfl
  have r2 : rd [a, b, c] 2 = c := rfl
  unfold cmp_Or_int.f
  have hl : (([a, b, c] : List Int).length : Int) = 3 := rfl
  rw [hl, cmp_Or_int.l0, r0, e1, cmp_Or_int.l0, r1, e2, cmp_Or_int.l0, r2, e3, cmp_Or_int.l0, hl]
  by_cases ha : a = 0
  · by_cases hb : b = 0
    · by_cases hc : c = 0 <;> simp [ha, hb, hc]
    · simp [ha, hb]
  · simp [ha]
theorem before_ev (a b : S37) : Ev (fun k => sets_before.f k a.f0 a.f1 a.f2 b.f0 b.f1 b.f2) (cmpP a b) := by
  unfold sets_before.f strings_Compare.f
  simp only [cmpI_eq, Option.bind_some]
  refine Ev.bind (F := fun _ t => some t) (v := cmpP a b) ?_ Ev.pure
  have h := or3_ev (if a.f0 < b.f0 then -1 else if b.f0 < a.f0 then 1 else 0) (if a.f1 < b.f1 then -1 else if b.f1 < a.f1 then 1 else 0) (Lib.compareBytes a.f2.data.toList b.f2.data.toList)
  have e : (if (if a.f0 < b.f0 then (-1 : Int) else if b.f0 < a.f0 then 1 else 0) = 0 then (if (if a.f1 < b.f1 then (-1 : Int) else if b.f1 < a.f1 then 1 else 0) = 0 then Lib.compareBytes a.f2.data.toList b.f2.data.toList else if a.f1 < b.f1 then -1 else if b.f1 < a.f1 then 1 else 0) else if a.f0 < b.f0 then -1 else if b.f0 < a.f0 then 1 else 0) = cmpP a b := by
    rw [cmpB_eq]
    unfold cmpP bs
    repeat' split
    all_goals first | rfl | omega
  rwa [e] at h
def lstep (acc : Option S37) (p : S37) : Option S37 := match acc with | none => some p | some q => if ltP p q then some p else some q
def leastS (l : List S37) : Option S37 := l.foldl lstep none
theorem foldl_filter (f : S37 → Bool) (l : List S37) : ∀ acc, l.foldl (fun a p => if f p = true then lstep a p else a) acc = (l.filter f).foldl lstep acc := by
  induction l with
  | nil => intro acc; rfl
  | cons y r ih =>
    intro acc
    rw [List.foldl_cons, ih, List.filter_cons]
    by_cases h : f y = true
    · rw [if_pos h, if_pos h]; rfl
    · rw [if_neg h, if_neg h]
def eqP (a b : S37) : Bool := a.f0 == b.f0 && (a.f1 == b.f1 && (a.f2.toList == b.f2.toList))
theorem toList_inj {a b : ByteArray} (h : a.toList = b.toList) : a = b := by
  rw [Go.Lib.toList_data, Go.Lib.toList_data] at h
  exact bs_inj h
theorem eqP_iff (a b : S37) : eqP a b = true ↔ a = b := by
  unfold eqP
  cases a; cases b
  simp only [Bool.and_eq_true, beq_iff_eq, S37.mk.injEq]
  exact ⟨fun h => ⟨h.1, h.2.1, toList_inj h.2.2⟩, fun h => ⟨h.1, h.2.1, by rw [h.2.2]⟩⟩
def hasB (r : S44) (key : ByteArray) : Bool := !(decide (bs key < bs r.f0)) && (r.f2 || decide (bs key < bs r.f1))
theorem has_eq (r : S44) (key : ByteArray) : vellumref02_Has.f r.f0 r.f1 r.f2 key = some (hasB r key) := by
  unfold vellumref02_Has.f hasB
  rw [bless_eq, bless_eq]
  by_cases h : bs key < bs r.f0
  · simp [h]
  · cases h2 : r.f2 <;> simp [h]
theorem chas_eq (r : S44) (key : ByteArray) : code_Has.f r.f0 r.f1 r.f2 key = some (hasB r key) := has_eq r key
def spanB (p : S37) (s : S46) : Bool := (s.f0 == p.f0 && s.f1 == p.f1) && hasB s.f2 p.f2
def readsS (ps : List S37) (ss : List S46) (p : S37) : Bool := ps.any (eqP p) || ss.any (spanB p)
theorem any_drop {α : Type} {L : List α} {i : Nat} {x : α} (hx : L[i]? = some x) (f : α → Bool) : (L.drop i).any f = (f x || (L.drop (i + 1)).any f) := by
  have hlt := (List.getElem?_eq_some_iff.1 hx).1
  rw [List.drop_eq_getElem_cons hlt, (List.getElem?_eq_some_iff.1 hx).2]
  rfl
theorem spanned_ev (L : List S46) (p : S37) (hl : L.length < 4611686018427387904) : Ev (fun k => vellumref17_spanned.f k L p.f0 p.f1 p.f2) (L.any (spanB p)) := by
  have go : ∀ (m i : Nat), i + m = L.length → Ev (fun k => vellumref17_spanned.l0 k L (i : Int) p.f0 p.f1 p.f2) ((L.drop i).any (spanB p)) := by
    intro m
    induction m with
    | zero =>
      intro i hi
      refine Ev.from_ 1 fun k => ?_
      simp only [vellumref17_spanned.l0]
      rw [if_neg (by omega), List.drop_eq_nil_of_le (by omega)]
      rfl
    | succ m ih =>
      intro i hi
      obtain ⟨x, hx⟩ : ∃ x, L[i]? = some x := ⟨_, List.getElem?_eq_getElem (by omega)⟩
      rw [any_drop hx]
      by_cases e : spanB p x = true
      · rw [e, Bool.true_or]
        refine Ev.from_ 1 fun k => ?_
        simp only [vellumref17_spanned.l0]
        unfold spanB at e
        simp only [Bool.and_eq_true, beq_iff_eq] at e
        rw [if_pos (by omega), if_pos (by omega), rd46 hx, if_pos e.1.1, if_pos e.1.2, has_eq, Option.bind_some, if_pos e.2]
      · rw [Bool.not_eq_true] at e
        rw [e, Bool.false_or]
        refine Ev.step (g := fun k => vellumref17_spanned.l0 k L ((i + 1 : Nat) : Int) p.f0 p.f1 p.f2) (fun k => ?_) (ih (i + 1) (by omega))
        simp only [vellumref17_spanned.l0]
        rw [if_pos (by omega), if_pos (by omega), rd46 hx, has_eq, Option.bind_some, wrap64_id (by omega) (by omega)]
        unfold spanB at e
        by_cases h1 : x.f0 = p.f0
        · rw [if_pos h1]
          by_cases h2 : x.f1 = p.f1
          · rw [if_pos h2]
            simp only [h1, h2, beq_self_eq_true, Bool.true_and] at e
            rw [e]
            rfl
          · rw [if_neg h2]; rfl
        · rw [if_neg h1]; rfl
  have := go L.length 0 (by omega)
  rw [List.drop_zero] at this
  exact this
theorem run_loop {σ β : Type} (n : Nat) (g : Nat → Nat → σ → Option β) (st : Nat → σ) (e : Nat → σ → Option β) (r : β) (h1 : ∀ i k, i < n → g (k + 1) i (st i) = g k (i + 1) (st (i + 1))) (h2 : ∀ k, g (k + 1) n (st n) = e k (st n)) (h3 : Ev (fun k => e k (st n)) r) : Ev (fun k => g k 0 (st 0)) r := by
  have go : ∀ (m i : Nat), i + m = n → Ev (fun k => g k i (st i)) r := by
    intro m
    induction m with
    | zero => intro i hi; obtain rfl : i = n := (by omega); exact Ev.step (fun k => h2 k) h3
    | succ m ih => intro i hi; exact Ev.step (fun k => h1 i k (by omega)) (ih (i + 1) (by omega))
  exact go n 0 (by omega)
theorem take_snoc {α : Type} {L : List α} {i : Nat} {x : α} (hx : L[i]? = some x) : L.take (i + 1) = L.take i ++ [x] := by rw [List.take_add_one, hx]; rfl
theorem ex_get {α : Type} {L : List α} {i : Nat} (h : i < L.length) : ∃ x, L[i]? = some x := ⟨_, List.getElem?_eq_getElem h⟩
theorem both_ev (ps : List S37) (ss : List S46) (ws qs : List S37) (ts : List S46) (vs : List S37) (h1 : ps.length + qs.length < 4398046511104) (h2 : ss.length + ts.length < 2513169434916) (h3 : ws.length + vs.length < 4398046511104) : Ev (fun k => vellumref17_both.f k ps ss ws qs ts vs) (ps ++ qs, ss ++ ts, ws ++ vs) := by
  unfold vellumref17_both.f
  refine Ev.congr (fun k => ?_) (run_loop ps.length (fun k i acc => vellumref17_both.l0 k (i : Int) ps ss ws qs ts vs  acc) (fun i => ps.take i) (fun k acc => vellumref17_both.l1 k 0 ps ss ws qs ts vs acc) (ps ++ qs, ss ++ ts, ws ++ vs) (fun i k hi => ?_) (fun k => ?_) ?_)
  · simp only [List.take_zero]
    rfl
  · obtain ⟨x, hx⟩ := ex_get hi
    show vellumref17_both.l0 (k + 1) (i : Int) ps ss ws qs ts vs  _ = vellumref17_both.l0 k ((i + 1 : Nat) : Int) ps ss ws qs ts vs  _
    simp only [vellumref17_both.l0]
    rw [if_pos (by omega), if_pos (by omega), if_pos (by simp only [List.length_append, List.length_take]; omega), rd37 hx, wrap64_id (by omega) (by omega), take_snoc hx]
    rfl
  · simp only [vellumref17_both.l0]
    rw [if_neg (by omega)]
  simp only [List.take_length]
  refine Ev.congr (fun k => ?_) (run_loop qs.length (fun k i acc => vellumref17_both.l1 k (i : Int) ps ss ws qs ts vs  acc) (fun i => ps ++ qs.take i) (fun k acc => vellumref17_both.l2 k 0 ps ss ws qs ts vs acc []) (ps ++ qs, ss ++ ts, ws ++ vs) (fun i k hi => ?_) (fun k => ?_) ?_)
  · simp only [List.take_zero, List.append_nil]
    rfl
  · obtain ⟨x, hx⟩ := ex_get hi
    show vellumref17_both.l1 (k + 1) (i : Int) ps ss ws qs ts vs  _ = vellumref17_both.l1 k ((i + 1 : Nat) : Int) ps ss ws qs ts vs  _
    simp only [vellumref17_both.l1]
    rw [if_pos (by omega), if_pos (by omega), if_pos (by simp only [List.length_append, List.length_take]; omega), rd37 hx, wrap64_id (by omega) (by omega), take_snoc hx, ← List.append_assoc]
    rfl
  · simp only [vellumref17_both.l1]
    rw [if_neg (by omega)]
  simp only [List.take_length]
  refine Ev.congr (fun k => ?_) (run_loop ss.length (fun k i acc => vellumref17_both.l2 k (i : Int) ps ss ws qs ts vs (ps ++ qs) acc) (fun i => ss.take i) (fun k acc => vellumref17_both.l3 k 0 ps ss ws qs ts vs (ps ++ qs) acc) (ps ++ qs, ss ++ ts, ws ++ vs) (fun i k hi => ?_) (fun k => ?_) ?_)
  · simp only [List.take_zero]
    rfl
  · obtain ⟨x, hx⟩ := ex_get hi
    show vellumref17_both.l2 (k + 1) (i : Int) ps ss ws qs ts vs (ps ++ qs) _ = vellumref17_both.l2 k ((i + 1 : Nat) : Int) ps ss ws qs ts vs (ps ++ qs) _
    simp only [vellumref17_both.l2]
    rw [if_pos (by omega), if_pos (by omega), if_pos (by simp only [List.length_append, List.length_take]; omega), rd46 hx, wrap64_id (by omega) (by omega), take_snoc hx]
    rfl
  · simp only [vellumref17_both.l2]
    rw [if_neg (by omega)]
  simp only [List.take_length]
  refine Ev.congr (fun k => ?_) (run_loop ts.length (fun k i acc => vellumref17_both.l3 k (i : Int) ps ss ws qs ts vs (ps ++ qs) acc) (fun i => ss ++ ts.take i) (fun k acc => vellumref17_both.l4 k 0 ps ss ws qs ts vs (ps ++ qs) acc []) (ps ++ qs, ss ++ ts, ws ++ vs) (fun i k hi => ?_) (fun k => ?_) ?_)
  · simp only [List.take_zero, List.append_nil]
    rfl
  · obtain ⟨x, hx⟩ := ex_get hi
    show vellumref17_both.l3 (k + 1) (i : Int) ps ss ws qs ts vs (ps ++ qs) _ = vellumref17_both.l3 k ((i + 1 : Nat) : Int) ps ss ws qs ts vs (ps ++ qs) _
    simp only [vellumref17_both.l3]
    rw [if_pos (by omega), if_pos (by omega), if_pos (by simp only [List.length_append, List.length_take]; omega), rd46 hx, wrap64_id (by omega) (by omega), take_snoc hx, ← List.append_assoc]
    rfl
  · simp only [vellumref17_both.l3]
    rw [if_neg (by omega)]
  simp only [List.take_length]
  refine Ev.congr (fun k => ?_) (run_loop ws.length (fun k i acc => vellumref17_both.l4 k (i : Int) ps ss ws qs ts vs (ps ++ qs) (ss ++ ts) acc) (fun i => ws.take i) (fun k acc => vellumref17_both.l5 k 0 qs ts vs (ps ++ qs) (ss ++ ts) acc) (ps ++ qs, ss ++ ts, ws ++ vs) (fun i k hi => ?_) (fun k => ?_) ?_)
  · simp only [List.take_zero]
    rfl
  · obtain ⟨x, hx⟩ := ex_get hi
    show vellumref17_both.l4 (k + 1) (i : Int) ps ss ws qs ts vs (ps ++ qs) (ss ++ ts) _ = vellumref17_both.l4 k ((i + 1 : Nat) : Int) ps ss ws qs ts vs (ps ++ qs) (ss ++ ts) _
    simp only [vellumref17_both.l4]
    rw [if_pos (by omega), if_pos (by omega), if_pos (by simp only [List.length_append, List.length_take]; omega), rd37 hx, wrap64_id (by omega) (by omega), take_snoc hx]
    rfl
  · simp only [vellumref17_both.l4]
    rw [if_neg (by omega)]
  simp only [List.take_length]
  refine Ev.congr (fun k => ?_) (run_loop vs.length (fun k i acc => vellumref17_both.l5 k (i : Int) qs ts vs (ps ++ qs) (ss ++ ts) acc) (fun i => ws ++ vs.take i) (fun k acc => some (ps ++ qs, ss ++ ts, acc)) (ps ++ qs, ss ++ ts, ws ++ vs) (fun i k hi => ?_) (fun k => ?_) ?_)
  · simp only [List.take_zero, List.append_nil]
    rfl
  · obtain ⟨x, hx⟩ := ex_get hi
    show vellumref17_both.l5 (k + 1) (i : Int) qs ts vs (ps ++ qs) (ss ++ ts) _ = vellumref17_both.l5 k ((i + 1 : Nat) : Int) qs ts vs (ps ++ qs) (ss ++ ts) _
    simp only [vellumref17_both.l5]
    rw [if_pos (by omega), if_pos (by omega), if_pos (by simp only [List.length_append, List.length_take]; omega), rd37 hx, wrap64_id (by omega) (by omega), take_snoc hx, ← List.append_assoc]
    rfl
  · simp only [vellumref17_both.l5]
    rw [if_neg (by omega)]
  simp only [List.take_length]
  exact Ev.pure
theorem copy_ev (ps : List S37) (ss : List S46) (ws : List S37) (h1 : ps.length < 4398046511104) (h2 : ss.length < 2513169434916) (h3 : ws.length < 4398046511104) : Ev (fun k => vellumref17_Copy.f k ps ss ws) (ps, ss, ws) := by
  unfold vellumref17_Copy.f
  have h := both_ev ps ss ws [] [] [] (by simpa using h1) (by simpa using h2) (by simpa using h3)
  simp only [List.append_nil] at h
  exact Ev.bind (F := fun _ t => some (t.1, t.2.1, t.2.2)) h Ev.pure
theorem same_ev (ps : List S37) (ss : List S46) (ws : List S37) (h1 : ps.length < 4398046511104) (h2 : ss.length < 2513169434916) (h3 : ws.length < 4398046511104) : Ev (fun k => vellumref17_Same.f k ps ss ws ps ss ws) true := by
  unfold vellumref17_Same.f
  refine Ev.pos rfl (Ev.pos rfl (Ev.step (g := fun k => vellumref17_Same.l0 k 0 ps ss ws ps ss ws) (fun k => ?_) ?_))
  · simp only [vellumref17_Same.j0, bne_self_eq_false, Bool.false_eq_true, if_false]
  refine Ev.congr (fun k => rfl) (run_loop ps.length (fun k i (_ : Unit) => vellumref17_Same.l0 k (i : Int) ps ss ws ps ss ws) (fun i => ()) (fun k _ => vellumref17_Same.l1 k 0 ps ss ws ps ss ws) true (fun i k hi => ?_) (fun k => ?_) ?_)
  · show vellumref17_Same.l0 (k + 1) (i : Int) ps ss ws ps ss ws = vellumref17_Same.l0 k ((i + 1 : Nat) : Int) ps ss ws ps ss ws
    simp only [vellumref17_Same.l0, beq_self_eq_true, Bool.not_true, Bool.or_false, Bool.false_eq_true, if_false]
    rw [if_pos (by omega), if_pos (by omega), if_pos (by omega), wrap64_id (by omega) (by omega)]
    rfl
  · simp only [vellumref17_Same.l0]
    rw [if_neg (by omega)]
  refine Ev.congr (fun k => rfl) (run_loop ss.length (fun k i (_ : Unit) => vellumref17_Same.l1 k (i : Int) ps ss ws ps ss ws) (fun i => ()) (fun k _ => vellumref17_Same.l2 k 0 ps ss ws ps ss ws) true (fun i k hi => ?_) (fun k => ?_) ?_)
  · show vellumref17_Same.l1 (k + 1) (i : Int) ps ss ws ps ss ws = vellumref17_Same.l1 k ((i + 1 : Nat) : Int) ps ss ws ps ss ws
    simp only [vellumref17_Same.l1, beq_self_eq_true, Bool.not_true, Bool.or_false, Bool.false_eq_true, if_false]
    rw [if_pos (by omega), if_pos (by omega), if_pos (by omega), wrap64_id (by omega) (by omega)]
    rfl
  · simp only [vellumref17_Same.l1]
    rw [if_neg (by omega)]
  refine Ev.congr (fun k => rfl) (run_loop ws.length (fun k i (_ : Unit) => vellumref17_Same.l2 k (i : Int) ps ss ws ps ss ws) (fun i => ()) (fun k _ => some true) true (fun i k hi => ?_) (fun k => ?_) ?_)
  · show vellumref17_Same.l2 (k + 1) (i : Int) ps ss ws ps ss ws = vellumref17_Same.l2 k ((i + 1 : Nat) : Int) ps ss ws ps ss ws
    simp only [vellumref17_Same.l2, beq_self_eq_true, Bool.not_true, Bool.or_false, Bool.false_eq_true, if_false]
    rw [if_pos (by omega), if_pos (by omega), if_pos (by omega), wrap64_id (by omega) (by omega)]
    rfl
  · simp only [vellumref17_Same.l2]
    rw [if_neg (by omega)]
  exact Ev.pure
theorem contains_ev (L : List S37) (p : S37) (hl : L.length < 4611686018427387904) : Ev (fun k => api_Point_34.f k L p.f0 p.f1 p.f2) (L.any (eqP p)) := by
  unfold api_Point_34.f api_Point_63.f
  have go : ∀ (m i : Nat), i + m = L.length → ∃ r : Int, Ev (fun k => api_Point_63.l0 k L (L.length : Int) (i : Int) p.f0 p.f1 p.f2) r ∧ decide (r ≥ 0) = (L.drop i).any (eqP p) := by
    intro m
    induction m with
    | zero =>
      intro i hi
      refine ⟨-1, Ev.from_ 1 fun k => ?_, ?_⟩
      · simp only [api_Point_63.l0]
        rw [if_neg (by omega)]
      · rw [List.drop_eq_nil_of_le (by omega)]; rfl
    | succ m ih =>
      intro i hi
      obtain ⟨x, hx⟩ := ex_get (L := L) (i := i) (by omega)
      rw [any_drop hx]
      by_cases e : eqP p x = true
      · refine ⟨i, Ev.from_ 1 fun k => ?_, ?_⟩
        · simp only [api_Point_63.l0]
          have e' := e
          unfold eqP at e'
          rw [if_pos (by omega), if_pos (by omega), if_pos (by omega), rd37 hx, if_pos e']
        · rw [e, Bool.true_or]; simp
      · obtain ⟨r, h1, h2⟩ := ih (i + 1) (by omega)
        rw [Bool.not_eq_true] at e
        refine ⟨r, Ev.step (fun k => ?_) h1, by rw [e, Bool.false_or]; exact h2⟩
        simp only [api_Point_63.l0]
        have e' : ¬ eqP p x = true := by rw [e]; decide
        unfold eqP at e'
        rw [if_pos (by omega), if_pos (by omega), if_pos (by omega), rd37 hx, if_neg e', wrap64_id (by omega) (by omega)]
        rfl
  obtain ⟨r, h1, h2⟩ := go L.length 0 (by omega)
  rw [List.drop_zero] at h2
  rw [← h2]
  exact Ev.bind (F := fun _ t => some (decide (t ≥ 0))) h1 Ev.pure
end Go.Proofs.YtldlenjfpjihdaaGreat.PS
end
