/- Part 2 of what the proof of CodeOwn stands on: words for walks, printed functions with their contracts, plain laws. -/
import Derived.Test.YtpiifdbicibelaaDoorKCodeOwn0
section
namespace Go.Proofs.YtpiifdbicibelaaDoor.PA
open Go.RowKit Go.Proofs.YtpiifdbicibelaaDoorW.PrintWords Go.Proofs.YtpiifdbicibelaaDoorW.PrintLast Go.Proofs.YtpiifdbicibelaaDoorW.PrintMore
attribute [local go_sem] max2_int min2_int max_two min_two max_three min_three max_four min_four
set_option linter.unusedVariables false
set_option linter.unusedSimpArgs false
def code_size.f (a0 : Int) : Option (Int) := (bits_Len64.f a0).bind fun t114 => (some (wrap64 (Int.tdiv (wrap64 (t114 + 7)) 8)))
set_option maxHeartbeats 8000000 in
set_option maxRecDepth 100000 in
theorem code_size.calls (a0 : Int) (r : Int) (w : World) (h : code_size.f a0 = some r) :
    Calls Tryd.prog 138 #[.int .u64 a0] w fun e w' => e = .returned (.int .i64 r) ∧ Drawn0 w w' := by
  have H : ((bits_Len64.f a0).bind fun t114 => (some (wrap64 (Int.tdiv (wrap64 (t114 + 7)) 8)))) = some r := h
  clear h
  replace H := Option.bind_eq_some_iff.mp H
  obtain ⟨t114, A20, H⟩ := H
  replace H : (some (wrap64 (Int.tdiv (wrap64 (t114 + 7)) 8))) = some r := H
  have A2 := am A20
  clear A20
  obtain rfl := Option.some.inj H
  go_enter Tryd.func138, Tryd.ntmps138
  go_wp2_with (first | ((with_reducible refine gate_callee (f := 156) rfl ?_); refine goesL_ (some 4) rfl rfl Tryd.func156 (by kernel_rfl) rfl #[.int .u64 a0] rfl ar ?_; (with_reducible refine (bits_Len64.calls a0 t114 _ A2.out).mono ?_); rintro e w' ⟨rfl, ⟨nd, rfl⟩⟩; refine ⟨_, rfl, ?_⟩))
  go_ret
  exact ⟨eb, by repeat (first | exact Drawn0.refl _ | apply Drawn0.step)⟩
def code_high.l0 : Nat → List Int → Int → Int → Option (List Int)
  | 0, _, _, _ => none
  | k + 1, x0, x1, x7 => if x7 ≥ 0 then (if 0 ≤ (wrap64 (8 * x7)) then (if x0.length < 140737488355328 then (code_high.l0 k (x0 ++ [(shr .u64 x1 (wrap64 (8 * x7))) % 256]) x1 (wrap64 (x7 - 1))) else (none)) else (none)) else (some x0)
def code_high.f (k : Nat) (l0 : List Int) (a1 : Int) (a2 : Int) : Option (List Int) := code_high.l0 k l0 a1 (wrap64 (a2 - 1))
set_option maxHeartbeats 8000000 in
set_option maxRecDepth 100000 in
theorem code_high.calls (k : Nat) (P0_ : Nat → Prop) (u9000_ : Value) (l0 : List Int) (a1 : Int) (a2 : Int) (r : List Int) (w0 w : World) (hB : Below w0.heap.size w0 w) (ho0 : Kd.R (Kd.int .u8) 5 w w0.heap.size P0_ u9000_ l0) (h : code_high.f k l0 a1 a2 = some r) :
    Calls Tryd.prog 139 #[u9000_, .int .u64 a1, .int .i64 a2] w fun e w' => ∃ v0_ : Value, e = .returned (v0_) ∧ Kd.R (Kd.int .u8) 5 w' w0.heap.size (fun k_ => (P0_ k_ ∨ w.heap.size ≤ k_)) v0_ r ∧ Below w0.heap.size w0 w' ∧ Kept w w' (fun k_ => P0_ k_) := by
  have HO0 := am (show Kd.R (Kd.int .u8) 5 w w0.heap.size (fun k_ => (P0_ k_ ∨ w.heap.size ≤ k_)) u9000_ l0 from Kd.R_mono ho0 (fun k_ hk => (.inl hk)))
  have HK := am (Kept.refl w (fun k_ => P0_ k_))
  have HW0 := am hB.size
  have HB := am hB
  clear hB
  have H : (code_high.l0 k l0 a1 (wrap64 (a2 - 1))) = some r := h
  clear h
  have H' := am H
  clear H
  go_enter Tryd.func139, Tryd.ntmps139
  go_wp2
  go_loopg [0, 7] k (fun kq v0 v7 w' => ∃ (x0_1 : List Int) (x7_1 : Int), v7 = .int .i64 x7_1 ∧ Aside0 (code_high.l0 kq x0_1 a1 x7_1 = some r) ∧ Aside0 (kq ≤ k) ∧ Aside0 (Kd.R (Kd.int .u8) 5 w' w0.heap.size (fun k_ => (P0_ k_ ∨ w.heap.size ≤ k_)) v0 x0_1) ∧ Aside0 (Kept w w' (fun k_ => P0_ k_)) ∧ Aside0 (Below w0.heap.size w0 w'))
  case atStart => exact ⟨(l0), (wrap64 (a2 - 1)), eb, H', ⟨Nat.le_refl _⟩, ⟨Kd.rr HO0.out⟩, ⟨by repeat (first | (with_reducible first | exact HK.out | apply Kept.alloc | apply Kept.drewN | apply Kept.drew) | exact HK.out)⟩, ⟨bl HB⟩⟩
  case round =>
    clear H'
    try clear c1
    try clear p2
    obtain ⟨x0_1, x7_1, rfl, HA, HK1, HO_0, HK, HB⟩ := hrel
    cases gk with
    | zero => exact absurd HA.out (by simp [code_high.l0])
    | succ k1 =>
      have H := HA.out
      clear HA
      simp only [code_high.l0] at H
      by_cases c4 : x7_1 ≥ 0
      · rw [if_pos c4] at H
        have c4b0 : decide (0 ≤ x7_1) = true := decide_eq_true c4
        clear c4
        obtain ⟨ji5, hji5⟩ : ∃ j_ : Int, (wrap64 (8 * x7_1)) = j_ := ⟨_, rfl⟩
        replace H : (if 0 ≤ (ji5) then (if x0_1.length < 140737488355328 then (code_high.l0 k1 (x0_1 ++ [(shr .u64 a1 (ji5)) % 256]) a1 (wrap64 (x7_1 - 1))) else (none)) else (none)) = some r := by first | (rw [hji5] at H; exact H) | (simp only [hji5] at H ⊢; exact H)
        have hji5w : (IntKind.i64.wrap (8 * x7_1)) = ji5 := (i64_w _).trans hji5
        by_cases c6 : 0 ≤ (ji5)
        · rw [if_pos c6] at H
          have c6b0 := eq_true c6
          have c6b1 : decide (0 ≤ (ji5)) = true := decide_eq_true c6
          clear c6
          obtain ⟨ji7, hji7⟩ : ∃ j_ : Int, (shr .u64 a1 (ji5)) = j_ := ⟨_, rfl⟩
          replace H : (if x0_1.length < 140737488355328 then (code_high.l0 k1 (x0_1 ++ [(ji7) % 256]) a1 (wrap64 (x7_1 - 1))) else (none)) = some r := by first | (rw [hji7] at H; exact H) | (simp only [hji7] at H ⊢; exact H)
          have hji7_ : (a1 / 2 ^ min (ji5).toNat 64) = ji7 := hji7
          have hji7z : (ji5) ≤ 64 → (a1 / 2 ^ (ji5).toNat) = ji7 := shr_small hji7
          by_cases c8 : x0_1.length < 140737488355328
          · rw [if_pos c8] at H
            have LMc8 := am c8
            clear c8
            obtain ⟨y115, hy115⟩ : ∃ y_ : List Int, y_ = (x0_1 ++ [(ji7) % 256]) := ⟨_, rfl⟩
            replace H : (code_high.l0 k1 y115 a1 (wrap64 (x7_1 - 1))) = some r := by first | (rw [hy115]; with_reducible exact H) | (have H2_ := (Option.bind_some _ _).symm.trans H; rw [hy115]; with_reducible exact H2_) | (have H2_ := (Option.bind_some _ _).symm.trans H; with_reducible exact H2_) | with_reducible exact H | (rw [hy115]; exact H) | exact H
            have Ny115 := am hy115
            clear hy115
            have H' := am H
            clear H
            go_wp2_with (first | ((with_reducible refine gate_builtin (b := .append) (xs := #[.tmp 14, .tmp 20]) rfl ?_); at_builtin; refine Kd.R_append (Kd.int .u8) (w0 := w0) w0.heap.size rfl (.tmp 14) (.tmp 20) 80 5 (.int .u8 0) 1 rfl Tryd.underlying80 info5 rfl (by decide) (by omega) u0 x0_1 ((ji7) % 256) [.int .u8 ((ji7) % 256)] (fun k_ => (P0_ k_ ∨ w.heap.size ≤ k_)) (fun _ => False) rfl rfl ?aP (fun _ hk => hk.elim) ?aF ?aO ?aB ?aS ?aL ?_; (case aP => exact rfl); (case aB => exact (bl HB)); (case aF => exact (fun k_ hk => (.inr (Nat.le_trans (by first | exact HK.out.1 | exact (show Kept w _ (fun k_ => P0_ k_) from by repeat (first | (with_reducible first | exact HK.out | apply Kept.alloc | apply Kept.drewN | apply Kept.drew) | exact HK.out)).1) hk)))); (case aO => exact (Kd.rr HO_0.out)); (case aS => exact (below_size (bl HB))); (case aL => have := LMc8.out; omega); intro v116 w9 ho hb hg hat; rw [← Ny115.out] at ho; have n0_ := am (hb); have n1_ := am (Kept.of_grown (S := (fun k_ => P0_ k_)) hg (by repeat (first | (with_reducible first | exact HK.out | apply Kept.alloc | apply Kept.drewN | apply Kept.drew) | exact HK.out)) (fun k_ e_ => (HO_0.out.1 k_ e_))); have n2_ := am (ho); clear HB; clear HK; clear HO_0; have HB := n0_; have HK := n1_; have HO117 := n2_; clear n0_ n1_ n2_; clear ho hb hg hat))
            go_roundg k1
            case measure => have := HK1.out; omega
            case rel => exact ⟨(y115), (wrap64 (x7_1 - 1)), eb, H', ⟨by have := HK1.out; omega⟩, ⟨Kd.rr HO117.out⟩, ⟨by repeat (first | (with_reducible first | exact HK.out | apply Kept.alloc | apply Kept.drewN | apply Kept.drew) | exact HK.out)⟩, ⟨bl HB⟩⟩
          · rw [if_neg c8] at H
            exact absurd H (by simp)
        · rw [if_neg c6] at H
          exact absurd H (by simp)
      · rw [if_neg c4] at H
        have c4b0 : decide (0 ≤ x7_1) = false := decide_eq_false c4
        clear c4
        obtain rfl := Option.some.inj H
        go_wp2
        go_ret
        exact ⟨_, er, Kd.rr HO_0.out, bl HB, by repeat (first | (with_reducible first | exact HK.out | apply Kept.alloc | apply Kept.drewN | apply Kept.drew) | exact HK.out)⟩
def code_putInt.f (k : Nat) (l0 : List Int) (a1 : Int) : Option (List Int) := if a1 ≥ 0 then ((code_size.f (IntKind.u64.wrap (a1))).bind fun t118 => (if l0.length < 140737488355328 then ((code_high.f k (l0 ++ [(wrap64 (128 + t118)) % 256]) (IntKind.u64.wrap (a1)) t118).bind fun t122 => (some t122)) else (none))) else ((code_size.f (IntKind.u64.wrap (wrap64 (-(wrap64 (a1 + 1)))))).bind fun t125 => (if l0.length < 140737488355328 then ((code_high.f k (l0 ++ [(wrap64 (128 - (mx t125 1))) % 256]) (not64 (IntKind.u64.wrap (wrap64 (-(wrap64 (a1 + 1)))))) (mx t125 1)).bind fun t129 => (some t129)) else (none)))
set_option maxHeartbeats 8000000 in
set_option maxRecDepth 100000 in
theorem code_putInt.calls (k : Nat) (P0_ : Nat → Prop) (u9000_ : Value) (l0 : List Int) (a1 : Int) (r : List Int) (w0 w : World) (hB : Below w0.heap.size w0 w) (ho0 : Kd.R (Kd.int .u8) 5 w w0.heap.size P0_ u9000_ l0) (h : code_putInt.f k l0 a1 = some r) :
    Calls Tryd.prog 100 #[u9000_, .int .i64 a1] w fun e w' => ∃ v0_ : Value, e = .returned (v0_) ∧ Kd.R (Kd.int .u8) 5 w' w0.heap.size (fun k_ => (P0_ k_ ∨ w.heap.size ≤ k_)) v0_ r ∧ Below w0.heap.size w0 w' ∧ Kept w w' (fun k_ => P0_ k_) := by
  have HO0 := am (show Kd.R (Kd.int .u8) 5 w w0.heap.size (fun k_ => (P0_ k_ ∨ w.heap.size ≤ k_)) u9000_ l0 from Kd.R_mono ho0 (fun k_ hk => (.inl hk)))
  have HK := am (Kept.refl w (fun k_ => P0_ k_))
  have HW0 := am hB.size
  have HB := am hB
  clear hB
  have H : (if a1 ≥ 0 then ((code_size.f (IntKind.u64.wrap (a1))).bind fun t118 => (if l0.length < 140737488355328 then ((code_high.f k (l0 ++ [(wrap64 (128 + t118)) % 256]) (IntKind.u64.wrap (a1)) t118).bind fun t122 => (some t122)) else (none))) else ((code_size.f (IntKind.u64.wrap (wrap64 (-(wrap64 (a1 + 1)))))).bind fun t125 => (if l0.length < 140737488355328 then ((code_high.f k (l0 ++ [(wrap64 (128 - (mx t125 1))) % 256]) (not64 (IntKind.u64.wrap (wrap64 (-(wrap64 (a1 + 1)))))) (mx t125 1)).bind fun t129 => (some t129)) else (none)))) = some r := h
  clear h
  by_cases c3 : a1 ≥ 0
  · rw [if_pos c3] at H
    have c3b0 : decide (0 ≤ a1) = true := decide_eq_true c3
    clear c3
    replace H := Option.bind_eq_some_iff.mp H
    obtain ⟨t118, A40, H⟩ := H
    replace H : (if l0.length < 140737488355328 then ((code_high.f k (l0 ++ [(wrap64 (128 + t118)) % 256]) (IntKind.u64.wrap (a1)) t118).bind fun t122 => (some t122)) else (none)) = some r := H
    have A4 := am A40
    clear A40
    by_cases c5 : l0.length < 140737488355328
    · rw [if_pos c5] at H
      have LMc5 := am c5
      clear c5
      obtain ⟨y119, hy119⟩ : ∃ y_ : List Int, y_ = (l0 ++ [(wrap64 (128 + t118)) % 256]) := ⟨_, rfl⟩
      replace H : ((code_high.f k y119 (IntKind.u64.wrap (a1)) t118).bind fun t122 => (some t122)) = some r := by first | (rw [hy119]; with_reducible exact H) | (have H2_ := (Option.bind_some _ _).symm.trans H; rw [hy119]; with_reducible exact H2_) | (have H2_ := (Option.bind_some _ _).symm.trans H; with_reducible exact H2_) | with_reducible exact H | (rw [hy119]; exact H) | exact H
      have Ny119 := am hy119
      clear hy119
      replace H := Option.bind_eq_some_iff.mp H
      obtain ⟨t122, A60, H⟩ := H
      replace H : (some t122) = some r := H
      have A6 := am A60
      clear A60
      obtain rfl := Option.some.inj H
      go_enter Tryd.func100, Tryd.ntmps100
      go_wp2_with (first | ((with_reducible refine gate_callee (f := 138) rfl ?_); refine goesL_ (some 12) rfl rfl Tryd.func138 (by kernel_rfl) rfl #[.int .u64 (IntKind.u64.wrap (a1))] rfl ar ?_; (with_reducible refine (code_size.calls (IntKind.u64.wrap (a1)) t118 _ A4.out).mono ?_); rintro e w' ⟨rfl, ⟨nd, rfl⟩⟩; refine ⟨_, rfl, ?_⟩) | ((with_reducible refine gate_builtin (b := .append) (xs := #[.tmp 13, .tmp 17]) rfl ?_); at_builtin; refine Kd.R_append (Kd.int .u8) (w0 := w0) w0.heap.size rfl (.tmp 13) (.tmp 17) 80 5 (.int .u8 0) 1 rfl Tryd.underlying80 info5 rfl (by decide) (by omega) u9000_ l0 ((wrap64 (128 + t118)) % 256) [.int .u8 ((wrap64 (128 + t118)) % 256)] (fun k_ => (P0_ k_ ∨ w.heap.size ≤ k_)) (fun _ => False) rfl rfl ?aP (fun _ hk => hk.elim) ?aF ?aO ?aB ?aS ?aL ?_; (case aP => exact rfl); (case aB => exact (bl HB)); (case aF => exact (fun k_ hk => (.inr (Nat.le_trans (by first | exact HK.out.1 | exact (show Kept w _ (fun k_ => P0_ k_) from by repeat (first | (with_reducible first | exact HK.out | apply Kept.alloc | apply Kept.drewN | apply Kept.drew) | exact HK.out)).1) hk)))); (case aO => exact (Kd.rr HO0.out)); (case aS => exact (below_size (bl HB))); (case aL => have := LMc5.out; omega); intro v120 w7 ho hb hg hat; rw [← Ny119.out] at ho; have n0_ := am (hb); have n1_ := am (Kept.of_grown (S := (fun k_ => P0_ k_)) hg (by repeat (first | (with_reducible first | exact HK.out | apply Kept.alloc | apply Kept.drewN | apply Kept.drew) | exact HK.out)) (fun k_ e_ => (HO0.out.1 k_ e_))); have n2_ := am (ho); clear HB; clear HK; clear HO0; have HB := n0_; have HK := n1_; have HO121 := n2_; clear n0_ n1_ n2_; clear ho hb hg hat; obtain ⟨Ao8, co8, eo8⟩ := Kd.R_slice HO121.out; subst eo8) | ((with_reducible refine gate_callee (f := 139) rfl ?_); refine goesL_ (some 22) rfl rfl Tryd.func139 (by kernel_rfl) rfl #[.slice Ao8 y119.length co8, .int .u64 (IntKind.u64.wrap (a1)), .int .i64 t118] rfl ar ?_; (with_reducible refine (code_high.calls k (fun k_ => some k_ = (.slice Ao8 y119.length co8 : Value).ownBlock) (.slice Ao8 y119.length co8) y119 (IntKind.u64.wrap (a1)) t118 t122 w0 _ ?side1 ?side2 A6.out).mono ?_); (case side1 => repeat (first | (with_reducible first | exact HB.out | apply below_alloc | apply pw_below_drewN | apply below_drew1) | exact HB.out)); (case side2 => exact Kd.R_tight rfl HO121.out); rintro e w9 ⟨v123, rfl, ho0, hb, hkp⟩; refine ⟨_, rfl, ?_⟩; have n0_ := am (Kd.R_mono (ok' := fun k_ => (P0_ k_ ∨ w.heap.size ≤ k_)) ho0 (fun k_ hk_ => Or.elim hk_ (fun hs_ => (HO121.out.1 k_ (hs_).symm)) (fun hn_ => (.inr (Nat.le_trans (by first | exact HK.out.1 | exact (show Kept w _ (fun k_ => P0_ k_) from by repeat (first | (with_reducible first | exact HK.out | apply Kept.alloc | apply Kept.drewN | apply Kept.drew) | exact HK.out)).1) hn_))))); have n1_ := am (Kept.then_ (S := (fun k_ => P0_ k_)) (by repeat (first | (with_reducible first | exact HK.out | apply Kept.alloc | apply Kept.drewN | apply Kept.drew) | exact HK.out)) hkp (fun k_ hs_ => (fun e_ => (HO121.out.1 k_ e_.symm)) hs_)); have n2_ := am (hb); clear HK; clear HB; clear HO121; have HO124 := n0_; have HK := n1_; have HB := n2_; clear n0_ n1_ n2_; (try clear hb); (try clear hkp); (try clear ho0)))
      go_ret
      exact ⟨_, er, Kd.rr HO124.out, bl HB, by repeat (first | (with_reducible first | exact HK.out | apply Kept.alloc | apply Kept.drewN | apply Kept.drew) | exact HK.out)⟩
    · rw [if_neg c5] at H
      exact absurd H (by simp)
  · rw [if_neg c3] at H
    have c3b0 : decide (0 ≤ a1) = false := decide_eq_false c3
    clear c3
    replace H := Option.bind_eq_some_iff.mp H
    obtain ⟨t125, A100, H⟩ := H
    replace H : (if l0.length < 140737488355328 then ((code_high.f k (l0 ++ [(wrap64 (128 - (mx t125 1))) % 256]) (not64 (IntKind.u64.wrap (wrap64 (-(wrap64 (a1 + 1)))))) (mx t125 1)).bind fun t129 => (some t129)) else (none)) = some r := H
    have A10 := am A100
    clear A100
    obtain ⟨ji11, hji11⟩ : ∃ j_ : Int, (mx t125 1) = j_ := ⟨_, rfl⟩
    replace H : (if l0.length < 140737488355328 then ((code_high.f k (l0 ++ [(wrap64 (128 - (ji11))) % 256]) (not64 (IntKind.u64.wrap (wrap64 (-(wrap64 (a1 + 1)))))) (ji11)).bind fun t129 => (some t129)) else (none)) = some r := by first | (rw [hji11] at H; exact H) | (simp only [hji11] at H ⊢; exact H)
    (try rw [hji11] at A10)
    (try (have hji11l : 1 ≤ ji11 := by (rw [← hji11]; unfold mx; (repeat' split) <;> omega)))
    (try (have hji11m : 0 ≤ ji11 := by omega))
    have hji11_ : (if t125 < 1 then 1 else t125) = ji11 := hji11
    by_cases c12 : l0.length < 140737488355328
    · rw [if_pos c12] at H
      have LMc12 := am c12
      clear c12
      obtain ⟨y126, hy126⟩ : ∃ y_ : List Int, y_ = (l0 ++ [(wrap64 (128 - (ji11))) % 256]) := ⟨_, rfl⟩
      replace H : ((code_high.f k y126 (not64 (IntKind.u64.wrap (wrap64 (-(wrap64 (a1 + 1)))))) (ji11)).bind fun t129 => (some t129)) = some r := by first | (rw [hy126]; with_reducible exact H) | (have H2_ := (Option.bind_some _ _).symm.trans H; rw [hy126]; with_reducible exact H2_) | (have H2_ := (Option.bind_some _ _).symm.trans H; with_reducible exact H2_) | with_reducible exact H | (rw [hy126]; exact H) | exact H
      have Ny126 := am hy126
      clear hy126
      replace H := Option.bind_eq_some_iff.mp H
      obtain ⟨t129, A130, H⟩ := H
      replace H : (some t129) = some r := H
      have A13 := am A130
      clear A130
      obtain rfl := Option.some.inj H
      go_enter Tryd.func100, Tryd.ntmps100
      go_wp2_with (first | ((with_reducible refine gate_callee (f := 138) rfl ?_); refine goesL_ (some 28) rfl rfl Tryd.func138 (by kernel_rfl) rfl #[.int .u64 (IntKind.u64.wrap (wrap64 (-(wrap64 (a1 + 1)))))] rfl ar ?_; (with_reducible refine (code_size.calls (IntKind.u64.wrap (wrap64 (-(wrap64 (a1 + 1))))) t125 _ A10.out).mono ?_); rintro e w' ⟨rfl, ⟨nd, rfl⟩⟩; refine ⟨_, rfl, ?_⟩) | ((with_reducible refine gate_builtin (b := .append) (xs := #[.tmp 30, .tmp 34]) rfl ?_); at_builtin; refine Kd.R_append (Kd.int .u8) (w0 := w0) w0.heap.size rfl (.tmp 30) (.tmp 34) 80 5 (.int .u8 0) 1 rfl Tryd.underlying80 info5 rfl (by decide) (by omega) u9000_ l0 ((wrap64 (128 - (ji11))) % 256) [.int .u8 ((wrap64 (128 - (ji11))) % 256)] (fun k_ => (P0_ k_ ∨ w.heap.size ≤ k_)) (fun _ => False) rfl rfl ?aP (fun _ hk => hk.elim) ?aF ?aO ?aB ?aS ?aL ?_; (case aP => exact rfl); (case aB => exact (bl HB)); (case aF => exact (fun k_ hk => (.inr (Nat.le_trans (by first | exact HK.out.1 | exact (show Kept w _ (fun k_ => P0_ k_) from by repeat (first | (with_reducible first | exact HK.out | apply Kept.alloc | apply Kept.drewN | apply Kept.drew) | exact HK.out)).1) hk)))); (case aO => exact (Kd.rr HO0.out)); (case aS => exact (below_size (bl HB))); (case aL => have := LMc12.out; omega); intro v127 w14 ho hb hg hat; rw [← Ny126.out] at ho; have n0_ := am (hb); have n1_ := am (Kept.of_grown (S := (fun k_ => P0_ k_)) hg (by repeat (first | (with_reducible first | exact HK.out | apply Kept.alloc | apply Kept.drewN | apply Kept.drew) | exact HK.out)) (fun k_ e_ => (HO0.out.1 k_ e_))); have n2_ := am (ho); clear HB; clear HK; clear HO0; have HB := n0_; have HK := n1_; have HO128 := n2_; clear n0_ n1_ n2_; clear ho hb hg hat; obtain ⟨Ao15, co15, eo15⟩ := Kd.R_slice HO128.out; subst eo15) | ((with_reducible refine gate_callee (f := 139) rfl ?_); refine goesL_ (some 39) rfl rfl Tryd.func139 (by kernel_rfl) rfl #[.slice Ao15 y126.length co15, .int .u64 (not64 (IntKind.u64.wrap (wrap64 (-(wrap64 (a1 + 1)))))), .int .i64 ji11] rfl (by (try simp only [List.map_toArray, List.map_cons, List.map_nil]); first | done | (simp only [hji11]; rfl) | rfl | (simp only [List.length_drop, List.length_take]; rfl)) ?_; (with_reducible refine (code_high.calls k (fun k_ => some k_ = (.slice Ao15 y126.length co15 : Value).ownBlock) (.slice Ao15 y126.length co15) y126 (not64 (IntKind.u64.wrap (wrap64 (-(wrap64 (a1 + 1)))))) ji11 t129 w0 _ ?side1 ?side2 A13.out).mono ?_); (case side1 => repeat (first | (with_reducible first | exact HB.out | apply below_alloc | apply pw_below_drewN | apply below_drew1) | exact HB.out)); (case side2 => exact Kd.R_tight rfl HO128.out); rintro e w16 ⟨v130, rfl, ho0, hb, hkp⟩; refine ⟨_, rfl, ?_⟩; have n0_ := am (Kd.R_mono (ok' := fun k_ => (P0_ k_ ∨ w.heap.size ≤ k_)) ho0 (fun k_ hk_ => Or.elim hk_ (fun hs_ => (HO128.out.1 k_ (hs_).symm)) (fun hn_ => (.inr (Nat.le_trans (by first | exact HK.out.1 | exact (show Kept w _ (fun k_ => P0_ k_) from by repeat (first | (with_reducible first | exact HK.out | apply Kept.alloc | apply Kept.drewN | apply Kept.drew) | exact HK.out)).1) hn_))))); have n1_ := am (Kept.then_ (S := (fun k_ => P0_ k_)) (by repeat (first | (with_reducible first | exact HK.out | apply Kept.alloc | apply Kept.drewN | apply Kept.drew) | exact HK.out)) hkp (fun k_ hs_ => (fun e_ => (HO128.out.1 k_ e_.symm)) hs_)); have n2_ := am (hb); clear HK; clear HB; clear HO128; have HO131 := n0_; have HK := n1_; have HB := n2_; clear n0_ n1_ n2_; (try clear hb); (try clear hkp); (try clear ho0)))
      go_ret
      exact ⟨_, by first | rfl | (simp [errW_none, errW_some] <;> rfl) | (simp only [← hji11]; first | rfl | (simp [errW_none, errW_some] <;> rfl)) | (simp [*, errW_none, errW_some] <;> rfl), Kd.rr HO131.out, bl HB, by repeat (first | (with_reducible first | exact HK.out | apply Kept.alloc | apply Kept.drewN | apply Kept.drew) | exact HK.out)⟩
    · rw [if_neg c12] at H
      exact absurd H (by simp)
def code_putFloat.f (k : Nat) (l0 : List Int) (a1 : Nat) : Option (List Int) := if (((a1 : Nat) : Int) / 9223372036854775808) = 0 then ((code_high.f k l0 (Go.bits .or .u64 ((a1 : Nat) : Int) 9223372036854775808) 8).bind fun t132 => (some t132)) else ((code_high.f k l0 (not64 ((a1 : Nat) : Int)) 8).bind fun t135 => (some t135))
set_option maxHeartbeats 8000000 in
set_option maxRecDepth 100000 in
theorem code_putFloat.calls (k : Nat) (P0_ : Nat → Prop) (u9000_ : Value) (l0 : List Int) (a1 : Nat) (r : List Int) (w0 w : World) (hB : Below w0.heap.size w0 w) (ho0 : Kd.R (Kd.int .u8) 5 w w0.heap.size P0_ u9000_ l0) (h : code_putFloat.f k l0 a1 = some r) :
    Calls Tryd.prog 101 #[u9000_, .float .f64 a1] w fun e w' => ∃ v0_ : Value, e = .returned (v0_) ∧ Kd.R (Kd.int .u8) 5 w' w0.heap.size (fun k_ => (P0_ k_ ∨ w.heap.size ≤ k_)) v0_ r ∧ Below w0.heap.size w0 w' ∧ Kept w w' (fun k_ => P0_ k_) := by
  have HO0 := am (show Kd.R (Kd.int .u8) 5 w w0.heap.size (fun k_ => (P0_ k_ ∨ w.heap.size ≤ k_)) u9000_ l0 from Kd.R_mono ho0 (fun k_ hk => (.inl hk)))
  have HK := am (Kept.refl w (fun k_ => P0_ k_))
  have HW0 := am hB.size
  have HB := am hB
  clear hB
  have H : (if (((a1 : Nat) : Int) / 9223372036854775808) = 0 then ((code_high.f k l0 (Go.bits .or .u64 ((a1 : Nat) : Int) 9223372036854775808) 8).bind fun t132 => (some t132)) else ((code_high.f k l0 (not64 ((a1 : Nat) : Int)) 8).bind fun t135 => (some t135))) = some r := h
  clear h
  by_cases c3 : (((a1 : Nat) : Int) / 9223372036854775808) = 0
  · rw [if_pos c3] at H
    have c3b0 : ((((a1 : Nat) : Int) / 9223372036854775808) == 0) = true := beq_iff_eq.mpr c3
    have c3b1 : ((((a1 : Nat) : Int) / 9223372036854775808) != 0) = false := bne_eq_false_iff_eq.mpr c3
    clear c3
    replace H := Option.bind_eq_some_iff.mp H
    obtain ⟨t132, A40, H⟩ := H
    replace H : (some t132) = some r := H
    have A4 := am A40
    clear A40
    obtain rfl := Option.some.inj H
    obtain ⟨Ao5, co5, eo5⟩ := Kd.R_slice HO0.out
    subst eo5
    go_enter Tryd.func101, Tryd.ntmps101
    go_wp2_with (first | ((with_reducible refine gate_callee (f := 139) rfl ?_); refine goesL_ (some 17) rfl rfl Tryd.func139 (by kernel_rfl) rfl #[.slice Ao5 l0.length co5, .int .u64 (Go.bits .or .u64 ((a1 : Nat) : Int) 9223372036854775808), .int .i64 8] rfl ar ?_; (with_reducible refine (code_high.calls k (fun k_ => some k_ = (.slice Ao5 l0.length co5 : Value).ownBlock) (.slice Ao5 l0.length co5) l0 (Go.bits .or .u64 ((a1 : Nat) : Int) 9223372036854775808) 8 t132 w0 _ ?side1 ?side2 A4.out).mono ?_); (case side1 => repeat (first | (with_reducible first | exact HB.out | apply below_alloc | apply pw_below_drewN | apply below_drew1) | exact HB.out)); (case side2 => exact Kd.R_tight rfl HO0.out); rintro e w6 ⟨v133, rfl, ho0, hb, hkp⟩; refine ⟨_, rfl, ?_⟩; have n0_ := am (Kd.R_mono (ok' := fun k_ => (P0_ k_ ∨ w.heap.size ≤ k_)) ho0 (fun k_ hk_ => Or.elim hk_ (fun hs_ => (HO0.out.1 k_ (hs_).symm)) (fun hn_ => (.inr (Nat.le_trans (by first | exact HK.out.1 | exact (show Kept w _ (fun k_ => P0_ k_) from by repeat (first | (with_reducible first | exact HK.out | apply Kept.alloc | apply Kept.drewN | apply Kept.drew) | exact HK.out)).1) hn_))))); have n1_ := am (Kept.then_ (S := (fun k_ => P0_ k_)) (by repeat (first | (with_reducible first | exact HK.out | apply Kept.alloc | apply Kept.drewN | apply Kept.drew) | exact HK.out)) hkp (fun k_ hs_ => (fun e_ => (HO0.out.1 k_ e_.symm)) hs_)); have n2_ := am (hb); clear HK; clear HB; clear HO0; have HO134 := n0_; have HK := n1_; have HB := n2_; clear n0_ n1_ n2_; (try clear hb); (try clear hkp); (try clear ho0)))
    go_ret
    exact ⟨_, er, Kd.rr HO134.out, bl HB, by repeat (first | (with_reducible first | exact HK.out | apply Kept.alloc | apply Kept.drewN | apply Kept.drew) | exact HK.out)⟩
  · rw [if_neg c3] at H
    have c3b0 : ((((a1 : Nat) : Int) / 9223372036854775808) == 0) = false := beq_eq_false_iff_ne.mpr c3
    have c3b1 : ((((a1 : Nat) : Int) / 9223372036854775808) != 0) = true := bne_iff_ne.mpr c3
    replace H := Option.bind_eq_some_iff.mp H
    obtain ⟨t135, A70, H⟩ := H
    replace H : (some t135) = some r := H
    have A7 := am A70
    clear A70
    obtain rfl := Option.some.inj H
    obtain ⟨Ao8, co8, eo8⟩ := Kd.R_slice HO0.out
    subst eo8
    go_enter Tryd.func101, Tryd.ntmps101
    go_wp2_with (first | ((with_reducible refine gate_callee (f := 139) rfl ?_); refine goesL_ (some 17) rfl rfl Tryd.func139 (by kernel_rfl) rfl #[.slice Ao8 l0.length co8, .int .u64 (not64 ((a1 : Nat) : Int)), .int .i64 8] rfl ar ?_; (with_reducible refine (code_high.calls k (fun k_ => some k_ = (.slice Ao8 l0.length co8 : Value).ownBlock) (.slice Ao8 l0.length co8) l0 (not64 ((a1 : Nat) : Int)) 8 t135 w0 _ ?side1 ?side2 A7.out).mono ?_); (case side1 => repeat (first | (with_reducible first | exact HB.out | apply below_alloc | apply pw_below_drewN | apply below_drew1) | exact HB.out)); (case side2 => exact Kd.R_tight rfl HO0.out); rintro e w9 ⟨v136, rfl, ho0, hb, hkp⟩; refine ⟨_, rfl, ?_⟩; have n0_ := am (Kd.R_mono (ok' := fun k_ => (P0_ k_ ∨ w.heap.size ≤ k_)) ho0 (fun k_ hk_ => Or.elim hk_ (fun hs_ => (HO0.out.1 k_ (hs_).symm)) (fun hn_ => (.inr (Nat.le_trans (by first | exact HK.out.1 | exact (show Kept w _ (fun k_ => P0_ k_) from by repeat (first | (with_reducible first | exact HK.out | apply Kept.alloc | apply Kept.drewN | apply Kept.drew) | exact HK.out)).1) hn_))))); have n1_ := am (Kept.then_ (S := (fun k_ => P0_ k_)) (by repeat (first | (with_reducible first | exact HK.out | apply Kept.alloc | apply Kept.drewN | apply Kept.drew) | exact HK.out)) hkp (fun k_ hs_ => (fun e_ => (HO0.out.1 k_ e_.symm)) hs_)); have n2_ := am (hb); clear HK; clear HB; clear HO0; have HO137 := n0_; have HK := n1_; have HB := n2_; clear n0_ n1_ n2_; (try clear hb); (try clear hkp); (try clear ho0)))
    go_ret
    exact ⟨_, er, Kd.rr HO137.out, bl HB, by repeat (first | (with_reducible first | exact HK.out | apply Kept.alloc | apply Kept.drewN | apply Kept.drew) | exact HK.out)⟩
def math_IsNaN.f (a0 : Nat) : Option (Bool) := some (!(feq a0 a0))
set_option maxHeartbeats 8000000 in
set_option maxRecDepth 100000 in
theorem math_IsNaN.calls (a0 : Nat) (r : Bool) (w : World) (h : math_IsNaN.f a0 = some r) :
    Calls Tryd.prog 140 #[.float .f64 a0] w fun e w' => e = .returned (.bool r) ∧ Drawn0 w w' := by
  have H : (some (!(feq a0 a0))) = some r := h
  clear h
  obtain rfl := Option.some.inj H
  go_enter Tryd.func140, Tryd.ntmps140
  go_wp2
  go_ret
  exact ⟨eb, by repeat (first | exact Drawn0.refl _ | apply Drawn0.step)⟩
def value_Plain.j0 : Nat → Int → Int → Nat → ByteArray → Option (Int × Int × Nat × ByteArray)
  | 0, _, _, _, _ => none
  | k + 1, x139000, x139001, x139002, x139003 => (math_IsNaN.f x139002).bind fun t140 => (if t140 = true then (some (x139000, x139001, 9221120237041090560, x139003)) else (some (x139000, x139001, x139002, x139003)))
def value_Plain.f (k : Nat) (a0_0 : Int) (a0_1 : Int) (a0_2 : Nat) (a0_3 : ByteArray) : Option (Int × Int × Nat × ByteArray) := if a0_0 = 3 then (if (feq a0_2 0) = true then (value_Plain.j0 k a0_0 a0_1 0 a0_3) else (value_Plain.j0 k a0_0 a0_1 a0_2 a0_3)) else (some (a0_0, a0_1, a0_2, a0_3))
set_option maxHeartbeats 8000000 in
set_option maxRecDepth 100000 in
theorem value_Plain.calls (k : Nat) (a0_0 : Int) (a0_1 : Int) (a0_2 : Nat) (a0_3 : ByteArray) (r1 : Int) (r2 : Int) (r3 : Nat) (r4 : ByteArray) (w : World) (h : value_Plain.f k a0_0 a0_1 a0_2 a0_3 = some (r1, r2, r3, r4)) :
    Calls Tryd.prog 102 #[.agg #[.int .i64 a0_0, .int .i64 a0_1, .float .f64 a0_2, .string a0_3]] w fun e w' => e = .returned (.agg #[.int .i64 r1, .int .i64 r2, .float .f64 r3, .string r4]) ∧ Below w.heap.size w w' := by
  have hu50 := Tryd.underlying50
  have HB := am (Below.refl w.heap.size w)
  have H : (if a0_0 = 3 then (if (feq a0_2 0) = true then (value_Plain.j0 k a0_0 a0_1 0 a0_3) else (value_Plain.j0 k a0_0 a0_1 a0_2 a0_3)) else (some (a0_0, a0_1, a0_2, a0_3))) = some (r1, r2, r3, r4) := h
  clear h
  by_cases c2 : a0_0 = 3
  · rw [if_pos c2] at H
    have c2b0 : (a0_0 == 3) = true := beq_iff_eq.mpr c2
    have c2b1 : (a0_0 != 3) = false := bne_eq_false_iff_eq.mpr c2
    clear c2
    have HC3 := am H
    clear H
    go_enter Tryd.func102, Tryd.ntmps102
    go_upto_if 9 with (first | ((with_reducible refine gate_dst (N := 1) rfl ?_); refine box_event rfl (N := 1) rfl (cs := #[.int .i64 a0_0, .int .i64 a0_1, .float .f64 a0_2, .string a0_3]) (t := 50) gs ?_; intro gb138 hg w4 hbox hb; have BK138 := am (hbox); have GW138 := gw hg HB; have GE138 := gw hg HB; replace HB := sb HB hb; clear hb hbox hg) | ((with_reducible refine gate_dst (N := 2) rfl ?_); refine box_event rfl (N := 2) rfl (cs := #[.int .i64 0, .int .i64 0, .float .f64 0, .string (⟨#[]⟩ : ByteArray)]) (t := 50) gs ?_; intro gb139 hg w5 hbox hb; have BK139 := am (hbox); have GW139 := gw hg HB; have GE139 := gw hg HB; have NB138_139 := am ((by rw [hg]; exact Nat.ne_of_lt (blk_lt (bk BK138)) : gb138 ≠ gb139)); have NB139_138 := am ((by rw [hg]; exact Nat.ne_of_gt (blk_lt (bk BK138)) : gb139 ≠ gb138)); replace BK138 := kb BK138 hb; replace HB := sb HB hb; clear hb hbox hg; have hnb6 := NB138_139.out; have hnc6 := NB139_138.out; obtain ⟨Z7_0, Z7_1, Z7_2, Z7_3, Y7_0, Y7_1, Y7_2, Y7_3⟩ := bq4 BK138))
    (try simp only [Act.put, List.setIfInBounds_toArray, List.set_cons_zero, List.set_cons_succ])
    go_cut [] (fun wc => ∃ (kq : Nat) (x139002_2 : Nat), Aside0 (value_Plain.j0 kq a0_0 a0_1 x139002_2 a0_3 = some (r1, r2, r3, r4)) ∧ Aside0 (kq ≤ k) ∧ Aside0 (wc.heap[gb138]? = some (.cells #[.int .i64 a0_0, .int .i64 a0_1, .float .f64 x139002_2, .string a0_3] 50 (0, 0))) ∧ Aside0 (wc.heap[gb139]? = some (.cells #[.int .i64 0, .int .i64 0, .float .f64 0, .string (⟨#[]⟩ : ByteArray)] 50 (0, 0))) ∧ Aside0 (Below w.heap.size w wc))
    case first =>
      have H := HC3.out
      clear HC3
      by_cases c8 : (feq a0_2 0) = true
      · rw [if_pos c8] at H
        have c8b0 : (feq a0_2 0) = true := c8
        clear c8
        (first | rw [c8b0] | (simp only [i64_w, i32_w]; rw [c8b0]) | skip)
        have H' := am H
        clear H
        have hnb9 := NB138_139.out
        have hnc9 := NB139_138.out
        obtain ⟨Z10_0, Z10_1, Z10_2, Z10_3, Y10_0, Y10_1, Y10_2, Y10_3⟩ := bq4 BK138
        go_wp2
        go_meet
        case rel => exact ⟨_, (0), H', ⟨by first | omega | exact Nat.le_refl _⟩, ⟨by refine rp ?_; refine blk_put (cs := #[.int .i64 a0_0, .int .i64 a0_1, .float .f64 a0_2, .string a0_3]) ?_ 2 _ rfl; exact bk BK138⟩, ⟨by refine rp ?_; refine blk_far ?_ NB139_138.out _; exact bk BK139⟩, ⟨bl HB⟩⟩
      · rw [if_neg c8] at H
        have c8b0 : (feq a0_2 0) = false := by simpa using c8
        clear c8
        (first | rw [c8b0] | (simp only [i64_w, i32_w]; rw [c8b0]) | skip)
        have H' := am H
        clear H
        go_wp2
        go_meet
        case rel => exact ⟨_, (a0_2), H', ⟨by first | omega | exact Nat.le_refl _⟩, ⟨bk BK138⟩, ⟨bk BK139⟩, ⟨bl HB⟩⟩
    case rest =>
      clear HC3
      try clear c1
      try clear c2
      try clear c2b0
      try clear c2b1
      try clear p2
      try clear c6
      try clear c8
      try clear c8b0
      try clear c9
      try clear c10
      try clear Z10_0
      try clear Z10_1
      try clear Z10_2
      try clear Z10_3
      try clear Z7_0
      try clear Z7_1
      try clear Z7_2
      try clear Z7_3
      try clear Y10_0
      try clear Y10_1
      try clear Y10_2
      try clear Y10_3
      try clear Y7_0
      try clear Y7_1
      try clear Y7_2
      try clear Y7_3
      obtain ⟨kq, x139002_2, HA, HJ2, BK138, BK139, HB⟩ := hcut
      cases kq with
      | zero => exact absurd HA.out (by simp [value_Plain.j0])
      | succ kj2 =>
        have H := HA.out
        clear HA
        simp only [value_Plain.j0] at H
        replace H := Option.bind_eq_some_iff.mp H
        obtain ⟨t140, A110, H⟩ := H
        replace H : (if t140 = true then (some (a0_0, a0_1, 9221120237041090560, a0_3)) else (some (a0_0, a0_1, x139002_2, a0_3))) = some (r1, r2, r3, r4) := H
        have A11 := am A110
        clear A110
        by_cases c12 : t140 = true
        · subst c12
          have H1 : (some (a0_0, a0_1, 9221120237041090560, a0_3)) = some (r1, r2, r3, r4) := by rw [if_pos rfl] at H; exact H
          clear H
          have H := H1
          clear H1
          simp only [Option.some.injEq, Prod.mk.injEq] at H
          obtain ⟨rfl, rfl, rfl, rfl⟩ := H
          have hnb13 := NB138_139.out
          have hnc13 := NB139_138.out
          obtain ⟨Z14_0, Z14_1, Z14_2, Z14_3, Y14_0, Y14_1, Y14_2, Y14_3⟩ := bq4 BK138
          go_wp2_with (first | ((with_reducible refine gate_callee (f := 140) rfl ?_); refine goesL_ (some 13) rfl rfl Tryd.func140 (by kernel_rfl) rfl #[.float .f64 x139002_2] rfl ar ?_; (with_reducible refine (math_IsNaN.calls x139002_2 true _ A11.out).mono ?_); rintro e w' ⟨rfl, ⟨nd, rfl⟩⟩; refine ⟨_, rfl, ?_⟩; (try (rw [drewN_self wc]; generalize hq_ : World.drewN wc _ = wc; have n0_ : Aside0 (wc.heap[gb138]? = some (.cells #[.int .i64 a0_0, .int .i64 a0_1, .float .f64 x139002_2, .string a0_3] 50 (0, 0))) := ⟨by rw [← hq_]; exact (bk BK138)⟩; have n1_ : Aside0 (wc.heap[gb139]? = some (.cells #[.int .i64 0, .int .i64 0, .float .f64 0, .string (⟨#[]⟩ : ByteArray)] 50 (0, 0))) := ⟨by rw [← hq_]; exact (bk BK139)⟩; have n2_ : Aside0 (Below w.heap.size w wc) := ⟨by rw [← hq_]; exact (bl HB)⟩; clear BK138 BK139 HB hq_; have BK138 := n0_; have BK139 := n1_; have HB := n2_; clear n0_ n1_ n2_)); (try have Zuz15 : wc.cell? ⟨gb138, 0, none⟩ = some (.int .i64 a0_0) := (blk_cell BK138.out 0).trans rfl); (try have Yuz15 := blk_frozen BK138.out 0); (try have Zuz16 : wc.cell? ⟨gb138, 1, none⟩ = some (.int .i64 a0_1) := (blk_cell BK138.out 1).trans rfl); (try have Yuz16 := blk_frozen BK138.out 1); (try have Zuz17 : wc.cell? ⟨gb138, 2, none⟩ = some (.float .f64 x139002_2) := (blk_cell BK138.out 2).trans rfl); (try have Yuz17 := blk_frozen BK138.out 2); (try have Zuz18 : wc.cell? ⟨gb138, 3, none⟩ = some (.string a0_3) := (blk_cell BK138.out 3).trans rfl); (try have Yuz18 := blk_frozen BK138.out 3); (try have Zuz19 : wc.cell? ⟨gb139, 0, none⟩ = some (.int .i64 0) := (blk_cell BK139.out 0).trans rfl); (try have Yuz19 := blk_frozen BK139.out 0); (try have Zuz20 : wc.cell? ⟨gb139, 1, none⟩ = some (.int .i64 0) := (blk_cell BK139.out 1).trans rfl); (try have Yuz20 := blk_frozen BK139.out 1); (try have Zuz21 : wc.cell? ⟨gb139, 2, none⟩ = some (.float .f64 0) := (blk_cell BK139.out 2).trans rfl); (try have Yuz21 := blk_frozen BK139.out 2); (try have Zuz22 : wc.cell? ⟨gb139, 3, none⟩ = some (.string (⟨#[]⟩ : ByteArray)) := (blk_cell BK139.out 3).trans rfl); (try have Yuz22 := blk_frozen BK139.out 3); obtain ⟨Z23_0, Z23_1, Z23_2, Z23_3, Y23_0, Y23_1, Y23_2, Y23_3⟩ := bq4 BK139))
          refine bodyPost_ret (results_cell_row rfl _ _ gb139 50 #[.int .i64 a0_0, .int .i64 a0_1, .float .f64 9221120237041090560, .string a0_3] (0, 0) _ rfl (by refine rp ?_; refine blk_put (cs := #[.int .i64 a0_0, .int .i64 a0_1, .float .f64 9221120237041090560, .string (⟨#[]⟩ : ByteArray)]) ?_ 3 _ rfl; refine rp ?_; refine blk_put (cs := #[.int .i64 a0_0, .int .i64 a0_1, .float .f64 0, .string (⟨#[]⟩ : ByteArray)]) ?_ 2 _ rfl; refine rp ?_; refine blk_put (cs := #[.int .i64 a0_0, .int .i64 0, .float .f64 0, .string (⟨#[]⟩ : ByteArray)]) ?_ 1 _ rfl; refine rp ?_; refine blk_put (cs := #[.int .i64 0, .int .i64 0, .float .f64 0, .string (⟨#[]⟩ : ByteArray)]) ?_ 0 _ rfl; refine rp ?_; refine blk_far ?_ NB139_138.out _; exact bk BK139) Tryd.underlying50 rfl (by kernel_rfl)) rfl ?_
          exact ⟨er, bl HB⟩
        · replace c12 := Bool.eq_false_iff.mpr c12
          subst c12
          have H1 : (some (a0_0, a0_1, x139002_2, a0_3)) = some (r1, r2, r3, r4) := by rw [if_neg (show ¬ (false = true) by decide)] at H; exact H
          clear H
          have H := H1
          clear H1
          simp only [Option.some.injEq, Prod.mk.injEq] at H
          obtain ⟨rfl, rfl, rfl, rfl⟩ := H
          have hnb24 := NB138_139.out
          have hnc24 := NB139_138.out
          obtain ⟨Z25_0, Z25_1, Z25_2, Z25_3, Y25_0, Y25_1, Y25_2, Y25_3⟩ := bq4 BK138
          go_wp2_with (first | ((with_reducible refine gate_callee (f := 140) rfl ?_); refine goesL_ (some 13) rfl rfl Tryd.func140 (by kernel_rfl) rfl #[.float .f64 x139002_2] rfl ar ?_; (with_reducible refine (math_IsNaN.calls x139002_2 false _ A11.out).mono ?_); rintro e w' ⟨rfl, ⟨nd, rfl⟩⟩; refine ⟨_, rfl, ?_⟩; (try (rw [drewN_self wc]; generalize hq_ : World.drewN wc _ = wc; have n0_ : Aside0 (wc.heap[gb138]? = some (.cells #[.int .i64 a0_0, .int .i64 a0_1, .float .f64 x139002_2, .string a0_3] 50 (0, 0))) := ⟨by rw [← hq_]; exact (bk BK138)⟩; have n1_ : Aside0 (wc.heap[gb139]? = some (.cells #[.int .i64 0, .int .i64 0, .float .f64 0, .string (⟨#[]⟩ : ByteArray)] 50 (0, 0))) := ⟨by rw [← hq_]; exact (bk BK139)⟩; have n2_ : Aside0 (Below w.heap.size w wc) := ⟨by rw [← hq_]; exact (bl HB)⟩; clear BK138 BK139 HB hq_; have BK138 := n0_; have BK139 := n1_; have HB := n2_; clear n0_ n1_ n2_)); (try have Zuz26 : wc.cell? ⟨gb138, 0, none⟩ = some (.int .i64 a0_0) := (blk_cell BK138.out 0).trans rfl); (try have Yuz26 := blk_frozen BK138.out 0); (try have Zuz27 : wc.cell? ⟨gb138, 1, none⟩ = some (.int .i64 a0_1) := (blk_cell BK138.out 1).trans rfl); (try have Yuz27 := blk_frozen BK138.out 1); (try have Zuz28 : wc.cell? ⟨gb138, 2, none⟩ = some (.float .f64 x139002_2) := (blk_cell BK138.out 2).trans rfl); (try have Yuz28 := blk_frozen BK138.out 2); (try have Zuz29 : wc.cell? ⟨gb138, 3, none⟩ = some (.string a0_3) := (blk_cell BK138.out 3).trans rfl); (try have Yuz29 := blk_frozen BK138.out 3); (try have Zuz30 : wc.cell? ⟨gb139, 0, none⟩ = some (.int .i64 0) := (blk_cell BK139.out 0).trans rfl); (try have Yuz30 := blk_frozen BK139.out 0); (try have Zuz31 : wc.cell? ⟨gb139, 1, none⟩ = some (.int .i64 0) := (blk_cell BK139.out 1).trans rfl); (try have Yuz31 := blk_frozen BK139.out 1); (try have Zuz32 : wc.cell? ⟨gb139, 2, none⟩ = some (.float .f64 0) := (blk_cell BK139.out 2).trans rfl); (try have Yuz32 := blk_frozen BK139.out 2); (try have Zuz33 : wc.cell? ⟨gb139, 3, none⟩ = some (.string (⟨#[]⟩ : ByteArray)) := (blk_cell BK139.out 3).trans rfl); (try have Yuz33 := blk_frozen BK139.out 3); obtain ⟨Z34_0, Z34_1, Z34_2, Z34_3, Y34_0, Y34_1, Y34_2, Y34_3⟩ := bq4 BK139))
          refine bodyPost_ret (results_cell_row rfl _ _ gb139 50 #[.int .i64 a0_0, .int .i64 a0_1, .float .f64 x139002_2, .string a0_3] (0, 0) _ rfl (by refine rp ?_; refine blk_put (cs := #[.int .i64 a0_0, .int .i64 a0_1, .float .f64 x139002_2, .string (⟨#[]⟩ : ByteArray)]) ?_ 3 _ rfl; refine rp ?_; refine blk_put (cs := #[.int .i64 a0_0, .int .i64 a0_1, .float .f64 0, .string (⟨#[]⟩ : ByteArray)]) ?_ 2 _ rfl; refine rp ?_; refine blk_put (cs := #[.int .i64 a0_0, .int .i64 0, .float .f64 0, .string (⟨#[]⟩ : ByteArray)]) ?_ 1 _ rfl; refine rp ?_; refine blk_put (cs := #[.int .i64 0, .int .i64 0, .float .f64 0, .string (⟨#[]⟩ : ByteArray)]) ?_ 0 _ rfl; exact bk BK139) Tryd.underlying50 rfl (by kernel_rfl)) rfl ?_
          exact ⟨er, bl HB⟩
  · rw [if_neg c2] at H
    have c2b0 : (a0_0 == 3) = false := beq_eq_false_iff_ne.mpr c2
    have c2b1 : (a0_0 != 3) = true := bne_iff_ne.mpr c2
    simp only [Option.some.injEq, Prod.mk.injEq] at H
    obtain ⟨rfl, rfl, rfl, rfl⟩ := H
    go_enter Tryd.func102, Tryd.ntmps102
    go_wp2_with (first | ((with_reducible refine gate_dst (N := 1) rfl ?_); refine box_event rfl (N := 1) rfl (cs := #[.int .i64 a0_0, .int .i64 a0_1, .float .f64 a0_2, .string a0_3]) (t := 50) gs ?_; intro gb138 hg w35 hbox hb; have BK138 := am (hbox); have GW138 := gw hg HB; have GE138 := gw hg HB; replace HB := sb HB hb; clear hb hbox hg) | ((with_reducible refine gate_dst (N := 2) rfl ?_); refine box_event rfl (N := 2) rfl (cs := #[.int .i64 0, .int .i64 0, .float .f64 0, .string (⟨#[]⟩ : ByteArray)]) (t := 50) gs ?_; intro gb139 hg w36 hbox hb; have BK139 := am (hbox); have GW139 := gw hg HB; have GE139 := gw hg HB; have NB138_139 := am ((by rw [hg]; exact Nat.ne_of_lt (blk_lt (bk BK138)) : gb138 ≠ gb139)); have NB139_138 := am ((by rw [hg]; exact Nat.ne_of_gt (blk_lt (bk BK138)) : gb139 ≠ gb138)); replace BK138 := kb BK138 hb; replace HB := sb HB hb; clear hb hbox hg; have hnb37 := NB138_139.out; have hnc37 := NB139_138.out; obtain ⟨Z38_0, Z38_1, Z38_2, Z38_3, Y38_0, Y38_1, Y38_2, Y38_3⟩ := bq4 BK138; obtain ⟨Z39_0, Z39_1, Z39_2, Z39_3, Y39_0, Y39_1, Y39_2, Y39_3⟩ := bq4 BK139))
    refine bodyPost_ret (results_cell_row rfl _ _ gb139 50 #[.int .i64 a0_0, .int .i64 a0_1, .float .f64 a0_2, .string a0_3] (0, 0) _ rfl (by refine rp ?_; refine blk_put (cs := #[.int .i64 a0_0, .int .i64 a0_1, .float .f64 a0_2, .string (⟨#[]⟩ : ByteArray)]) ?_ 3 _ rfl; refine rp ?_; refine blk_put (cs := #[.int .i64 a0_0, .int .i64 a0_1, .float .f64 0, .string (⟨#[]⟩ : ByteArray)]) ?_ 2 _ rfl; refine rp ?_; refine blk_put (cs := #[.int .i64 a0_0, .int .i64 0, .float .f64 0, .string (⟨#[]⟩ : ByteArray)]) ?_ 1 _ rfl; refine rp ?_; refine blk_put (cs := #[.int .i64 0, .int .i64 0, .float .f64 0, .string (⟨#[]⟩ : ByteArray)]) ?_ 0 _ rfl; exact bk BK139) Tryd.underlying50 rfl (by kernel_rfl)) rfl ?_
    exact ⟨er, bl HB⟩
def code_putString.f (l0 : List Int) (a1 : ByteArray) : Option (List Int) := (strings_ReplaceAll.f a1 (⟨#[0]⟩ : ByteArray) (⟨#[0, 255]⟩ : ByteArray)).bind fun t141 => (if l0.length + t141.size < 140737488355328 then ((some (l0 ++ bytesOf t141 : List Int)).bind fun y142 => (if y142.length < 140737488355328 then (some (y142 ++ [0])) else (none))) else (none))
set_option maxHeartbeats 8000000 in
set_option maxRecDepth 100000 in
theorem code_putString.calls (P0_ : Nat → Prop) (u9000_ : Value) (l0 : List Int) (a1 : ByteArray) (r : List Int) (w0 w : World) (hB : Below w0.heap.size w0 w) (ho0 : Kd.R (Kd.int .u8) 5 w w0.heap.size P0_ u9000_ l0) (hG : Glob w0) (h : code_putString.f l0 a1 = some r) :
    Calls Tryd.prog 103 #[u9000_, .string a1] w fun e w' => ∃ v0_ : Value, e = .returned (v0_) ∧ Kd.R (Kd.int .u8) 5 w' w0.heap.size (fun k_ => (P0_ k_ ∨ w.heap.size ≤ k_)) v0_ r ∧ Below w0.heap.size w0 w' ∧ Kept w w' (fun k_ => P0_ k_) := by
  have HO0 := am (show Kd.R (Kd.int .u8) 5 w w0.heap.size (fun k_ => (P0_ k_ ∨ w.heap.size ≤ k_)) u9000_ l0 from Kd.R_mono ho0 (fun k_ hk => (.inl hk)))
  have HG := am hG
  clear hG
  have HK := am (Kept.refl w (fun k_ => P0_ k_))
  have HW0 := am hB.size
  have HB := am hB
  clear hB
  have H : ((strings_ReplaceAll.f a1 (⟨#[0]⟩ : ByteArray) (⟨#[0, 255]⟩ : ByteArray)).bind fun t141 => (if l0.length + t141.size < 140737488355328 then ((some (l0 ++ bytesOf t141 : List Int)).bind fun y142 => (if y142.length < 140737488355328 then (some (y142 ++ [0])) else (none))) else (none))) = some r := h
  clear h
  replace H := Option.bind_eq_some_iff.mp H
  obtain ⟨t141, A30, H⟩ := H
  replace H : (if l0.length + t141.size < 140737488355328 then ((some (l0 ++ bytesOf t141 : List Int)).bind fun y142 => (if y142.length < 140737488355328 then (some (y142 ++ [0])) else (none))) else (none)) = some r := H
  have A3 := am A30
  clear A30
  by_cases c4 : l0.length + t141.size < 140737488355328
  · rw [if_pos c4] at H
    have LMc4 := am c4
    clear c4
    obtain ⟨y142, hy142⟩ : ∃ y_ : List Int, y_ = (l0 ++ bytesOf t141) := ⟨_, rfl⟩
    replace H : (if y142.length < 140737488355328 then (some (y142 ++ [0])) else (none)) = some r := by first | (rw [hy142]; with_reducible exact H) | (have H2_ := (Option.bind_some _ _).symm.trans H; rw [hy142]; with_reducible exact H2_) | (have H2_ := (Option.bind_some _ _).symm.trans H; with_reducible exact H2_) | with_reducible exact H | (rw [hy142]; exact H) | exact H
    have Ny142 := am hy142
    clear hy142
    by_cases c5 : y142.length < 140737488355328
    · rw [if_pos c5] at H
      have LMc5 := am c5
      clear c5
      obtain ⟨y145, hy145⟩ : ∃ y_ : List Int, y_ = (y142 ++ [0]) := ⟨_, rfl⟩
      replace H : (some y145) = some r := by first | (rw [hy145]; with_reducible exact H) | (have H2_ := (Option.bind_some _ _).symm.trans H; rw [hy145]; with_reducible exact H2_) | (have H2_ := (Option.bind_some _ _).symm.trans H; with_reducible exact H2_) | with_reducible exact H | (rw [hy145]; exact H) | exact H
      have Ny145 := am hy145
      clear hy145
      obtain rfl := Option.some.inj H
      go_enter Tryd.func103, Tryd.ntmps103
      go_wp2_with (first | ((with_reducible refine gate_callee (f := 141) rfl ?_); refine goesL_ (some 7) rfl rfl Tryd.func141 (by kernel_rfl) rfl #[.string a1, .string (⟨#[0]⟩ : ByteArray), .string (⟨#[0, 255]⟩ : ByteArray)] rfl ar ?_; (with_reducible refine (strings_ReplaceAll.calls a1 (⟨#[0]⟩ : ByteArray) (⟨#[0, 255]⟩ : ByteArray) t141 _ (Glob.below HG.out (bl HB)) A3.out).mono ?_); rintro e w6 ⟨rfl, hb⟩; refine ⟨_, rfl, ?_⟩; have n0_ := am (Kd.R_below (Kd.rr HO0.out) hb); have n1_ := am (Kept.below (S := (fun k_ => P0_ k_)) (by repeat (first | (with_reducible first | exact HK.out | apply Kept.alloc | apply Kept.drewN | apply Kept.drew) | exact HK.out)) hb); have n2_ := sb HB hb; clear HO0; clear HK; clear HB; have HO0 := n0_; have HK := n1_; have HB := n2_; clear n0_ n1_ n2_; (try clear hb); (try clear hb2 hk hi)) | (at_builtin; refine Kd.R_append_str (w0 := w0) w0.heap.size rfl (.tmp 5) _ 80 9 5 rfl Tryd.underlying80 Tryd.underlying9 info5 u9000_ l0 t141 (fun k_ => (P0_ k_ ∨ w.heap.size ≤ k_)) rfl rfl ?aF ?aO ?aB ?aS ?aL ?_; (case aB => exact (bl HB)); (case aF => exact (fun k_ hk => (.inr (Nat.le_trans (by first | exact HK.out.1 | exact (show Kept w _ (fun k_ => P0_ k_) from by repeat (first | (with_reducible first | exact HK.out | apply Kept.alloc | apply Kept.drewN | apply Kept.drew) | exact HK.out)).1) hk)))); (case aO => exact (Kd.rr HO0.out)); (case aS => exact (below_size (bl HB))); (case aL => have := LMc4.out; omega); intro v143 w7 ho hb hg hat; rw [← Ny142.out] at ho; have n0_ := am (hb); have n1_ := am (Kept.of_grown (S := (fun k_ => P0_ k_)) hg (by repeat (first | (with_reducible first | exact HK.out | apply Kept.alloc | apply Kept.drewN | apply Kept.drew) | exact HK.out)) (fun k_ e_ => (HO0.out.1 k_ e_))); have n2_ := am (ho); clear HB; clear HK; clear HO0; have HB := n0_; have HK := n1_; have HO144 := n2_; clear n0_ n1_ n2_; clear ho hb hg hat) | ((with_reducible refine gate_builtin (b := .append) (xs := #[.tmp 8, .tmp 9]) rfl ?_); at_builtin; refine Kd.R_append (Kd.int .u8) (w0 := w0) w0.heap.size rfl (.tmp 8) (.tmp 9) 80 5 (.int .u8 0) 1 rfl Tryd.underlying80 info5 rfl (by decide) (by omega) v143 y142 0 [.int .u8 0] (fun k_ => (P0_ k_ ∨ w.heap.size ≤ k_)) (fun _ => False) rfl rfl ?aP (fun _ hk => hk.elim) ?aF ?aO ?aB ?aS ?aL ?_; (case aP => exact rfl); (case aB => exact (bl HB)); (case aF => exact (fun k_ hk => (.inr (Nat.le_trans (by first | exact HK.out.1 | exact (show Kept w _ (fun k_ => P0_ k_) from by repeat (first | (with_reducible first | exact HK.out | apply Kept.alloc | apply Kept.drewN | apply Kept.drew) | exact HK.out)).1) hk)))); (case aO => exact (Kd.rr HO144.out)); (case aS => exact (below_size (bl HB))); (case aL => have := LMc5.out; omega); intro v146 w8 ho hb hg hat; rw [← Ny145.out] at ho; have n0_ := am (hb); have n1_ := am (Kept.of_grown (S := (fun k_ => P0_ k_)) hg (by repeat (first | (with_reducible first | exact HK.out | apply Kept.alloc | apply Kept.drewN | apply Kept.drew) | exact HK.out)) (fun k_ e_ => (HO144.out.1 k_ e_))); have n2_ := am (ho); clear HB; clear HK; clear HO144; have HB := n0_; have HK := n1_; have HO147 := n2_; clear n0_ n1_ n2_; clear ho hb hg hat))
      go_ret
      exact ⟨_, er, Kd.rr HO147.out, bl HB, by repeat (first | (with_reducible first | exact HK.out | apply Kept.alloc | apply Kept.drewN | apply Kept.drew) | exact HK.out)⟩
    · rw [if_neg c5] at H
      exact absurd H (by simp)
  · rw [if_neg c4] at H
    exact absurd H (by simp)
def code_put.f (k : Nat) (l0 : List Int) (a1_0 : Int) (a1_1 : Int) (a1_2 : Nat) (a1_3 : ByteArray) : Option (List Int) := if a1_0 = 1 then ((some (([2, (a1_1) % 256] : List Int) : List Int)).bind fun y149 => (if l0.length + y149.length < 140737488355328 then (some (l0 ++ y149)) else (none))) else (if a1_0 = 2 then (if l0.length < 140737488355328 then ((code_putInt.f k (l0 ++ [3]) a1_1).bind fun t158 => (some t158)) else (none)) else (if a1_0 = 3 then (if l0.length < 140737488355328 then ((value_Plain.f k a1_0 a1_1 a1_2 a1_3).bind fun bt164 => ((code_putFloat.f k (l0 ++ [4]) bt164.2.2.1).bind fun t168 => (some t168))) else (none)) else (if a1_0 = 4 then (if l0.length < 140737488355328 then ((code_putString.f (l0 ++ [5]) a1_3).bind fun t174 => (some t174)) else (none)) else (if a1_0 = 5 then (if l0.length < 140737488355328 then ((code_putString.f (l0 ++ [6]) a1_3).bind fun t180 => (some t180)) else (none)) else (if l0.length < 140737488355328 then (some (l0 ++ [1])) else (none))))))
def code_put.T7 : Bool × List (List Nat × List Nat) := (true, [([], []), ([], []), ([0, 1], [0, 1]), ([], []), ([3, 2], [3]), ([4], [4]), ([2, 5, 4], [2, 5]), ([6, 6, 0, 1, 2, 3, 4, 5, 6], [6])])
def code_put.B7 : List Nat := [0, 0, 3, 0, 15, 31, 63, 127]
theorem code_put.tab7 : rtab .any (opsOf Tryd.f68 7) = code_put.T7 := by kernel_rfl
theorem code_put.bits7 : waitsOk code_put.T7.2 code_put.B7 = true := by kernel_rfl
set_option maxHeartbeats 8000000 in
set_option maxRecDepth 100000 in
theorem code_put.calls (k : Nat) (P0_ : Nat → Prop) (u9000_ : Value) (l0 : List Int) (a1_0 : Int) (a1_1 : Int) (a1_2 : Nat) (a1_3 : ByteArray) (r : List Int) (w0 w : World) (hB : Below w0.heap.size w0 w) (ho0 : Kd.R (Kd.int .u8) 5 w w0.heap.size P0_ u9000_ l0) (hG : Glob w0) (h : code_put.f k l0 a1_0 a1_1 a1_2 a1_3 = some r) :
    Calls Tryd.prog 68 #[u9000_, .agg #[.int .i64 a1_0, .int .i64 a1_1, .float .f64 a1_2, .string a1_3]] w fun e w' => ∃ v0_ : Value, e = .returned (v0_) ∧ Kd.R (Kd.int .u8) 5 w' w0.heap.size (fun k_ => (P0_ k_ ∨ w.heap.size ≤ k_)) v0_ r ∧ Below w0.heap.size w0 w' ∧ Kept w w' (fun k_ => P0_ k_) := by
  have hu50 := Tryd.underlying50
  have HO0 := am (show Kd.R (Kd.int .u8) 5 w w0.heap.size (fun k_ => (P0_ k_ ∨ w.heap.size ≤ k_)) u9000_ l0 from Kd.R_mono ho0 (fun k_ hk => (.inl hk)))
  have HG := am hG
  clear hG
  have HK := am (Kept.refl w (fun k_ => P0_ k_))
  have HW0 := am hB.size
  have HB := am hB
  clear hB
  have H : (if a1_0 = 1 then ((some (([2, (a1_1) % 256] : List Int) : List Int)).bind fun y149 => (if l0.length + y149.length < 140737488355328 then (some (l0 ++ y149)) else (none))) else (if a1_0 = 2 then (if l0.length < 140737488355328 then ((code_putInt.f k (l0 ++ [3]) a1_1).bind fun t158 => (some t158)) else (none)) else (if a1_0 = 3 then (if l0.length < 140737488355328 then ((value_Plain.f k a1_0 a1_1 a1_2 a1_3).bind fun bt164 => ((code_putFloat.f k (l0 ++ [4]) bt164.2.2.1).bind fun t168 => (some t168))) else (none)) else (if a1_0 = 4 then (if l0.length < 140737488355328 then ((code_putString.f (l0 ++ [5]) a1_3).bind fun t174 => (some t174)) else (none)) else (if a1_0 = 5 then (if l0.length < 140737488355328 then ((code_putString.f (l0 ++ [6]) a1_3).bind fun t180 => (some t180)) else (none)) else (if l0.length < 140737488355328 then (some (l0 ++ [1])) else (none))))))) = some r := h
  clear h
  by_cases c3 : a1_0 = 1
  · rw [if_pos c3] at H
    have c3b0 : (a1_0 == 1) = true := beq_iff_eq.mpr c3
    have c3b1 : (a1_0 != 1) = false := bne_eq_false_iff_eq.mpr c3
    clear c3
    obtain ⟨y149, hy149⟩ : ∃ y_ : List Int, y_ = (([2, (a1_1) % 256] : List Int)) := ⟨_, rfl⟩
    replace H : (if l0.length + y149.length < 140737488355328 then (some (l0 ++ y149)) else (none)) = some r := by first | (rw [hy149]; with_reducible exact H) | (have H2_ := (Option.bind_some _ _).symm.trans H; rw [hy149]; with_reducible exact H2_) | (have H2_ := (Option.bind_some _ _).symm.trans H; with_reducible exact H2_) | with_reducible exact H | (rw [hy149]; exact H) | exact H
    have Ny149 := am hy149
    clear hy149
    by_cases c4 : l0.length + y149.length < 140737488355328
    · rw [if_pos c4] at H
      have LMc4 := am c4
      clear c4
      obtain ⟨y152, hy152⟩ : ∃ y_ : List Int, y_ = (l0 ++ y149) := ⟨_, rfl⟩
      replace H : (some y152) = some r := by first | (rw [hy152]; with_reducible exact H) | (have H2_ := (Option.bind_some _ _).symm.trans H; rw [hy152]; with_reducible exact H2_) | (have H2_ := (Option.bind_some _ _).symm.trans H; with_reducible exact H2_) | with_reducible exact H | (rw [hy152]; exact H) | exact H
      have Ny152 := am hy152
      clear hy152
      obtain rfl := Option.some.inj H
      go_enter Tryd.func68, Tryd.ntmps68
      go_wp2_with (first | ((with_reducible refine gate_dst (N := 3) rfl ?_); refine box_event rfl (N := 3) rfl (cs := #[.int .i64 a1_0, .int .i64 a1_1, .float .f64 a1_2, .string a1_3]) (t := 50) gs ?_; intro gb148 hg w5 hbox hb; have n0_ := am (Kd.R_below (Kd.rr HO0.out) hb); have n1_ := am (Kept.below (S := (fun k_ => P0_ k_)) (by repeat (first | (with_reducible first | exact HK.out | apply Kept.alloc | apply Kept.drewN | apply Kept.drew) | exact HK.out)) hb); have n2_ := sb HB hb; have n3_ := am (hbox); have n4_ := am ((by rw [hg]; exact (by first | exact HK.out.1 | exact (show Kept w _ (fun k_ => P0_ k_) from by repeat (first | (with_reducible first | exact HK.out | apply Kept.alloc | apply Kept.drewN | apply Kept.drew) | exact HK.out)).1) : w.heap.size ≤ gb148)); have n5_ := am ((by rw [hg]; exact (below_size (bl HB)) : w0.heap.size ≤ gb148)); clear HO0; clear HK; clear HB; have HO0 := n0_; have HK := n1_; have HB := n2_; have BK148 := n3_; have GW148 := n4_; have GE148 := n5_; clear n0_ n1_ n2_ n3_ n4_ n5_; clear hb hbox hg; obtain ⟨Z6_0, Z6_1, Z6_2, Z6_3, Y6_0, Y6_1, Y6_2, Y6_3⟩ := bq4 BK148) | ((with_reducible refine gate_dst (N := 13) rfl ?_); refine Kd.R_lit (Kd.int .u8) _ 5 ?hg (N := 13) ?hd (xs := ([2, (a1_1) % 256] : List Int)) (inner := [.int .u8 2, .int .u8 ((a1_1) % 256)]) (ok := fun _ => True) (okp := fun _ => True) ?hr ?hp (fun _ hk => hk) trivial (Below.refl _ _) (Nat.le_refl _) (by simp) ?_; (case hd => rfl); (case hg => rfl); (case hr => first | (go_simp; done) | (go_simp; rfl)); (case hp => exact (Reps.one (show Kd.M (Kd.int .u8) _ _ _ 2 [.int .u8 2] from rfl) (Reps.one (show Kd.M (Kd.int .u8) _ _ _ ((a1_1) % 256) [.int .u8 ((a1_1) % 256)] from rfl) (Reps.none _ _)))); intro v150 w7 ho8 hb hg_ hnew_; clear hg_ hnew_; (first | rw [← Ny149.out] at ho8 | (simp only [Int.reduceToNat] at ho8; rw [← Ny149.out] at ho8)); have n0_ := am (Kd.R_elder' (Kd.rr HO0.out) (Kd.R_base ho8) hb); have n1_ := am (Kd.R_lower (Kd.R_new' (Kd.R_newM (M := fun k_ => (P0_ k_ ∨ w.heap.size ≤ k_)) ho8 (by first | exact HK.out.1 | exact (show Kept w _ (fun k_ => P0_ k_) from by repeat (first | (with_reducible first | exact HK.out | apply Kept.alloc | apply Kept.drewN | apply Kept.drew | refine Kept.setCell ?_ (.inr GW148.out) _) | exact HK.out)).1) (fun k_ h_ => .inr h_)) (Kd.R_lt (Kd.rr HO0.out))) (below_size (bl HB))); have n2_ := kb BK148 hb; have n3_ := am (Kept.below (S := (fun k_ => P0_ k_)) (by repeat (first | (with_reducible first | exact HK.out | apply Kept.alloc | apply Kept.drewN | apply Kept.drew | refine Kept.setCell ?_ (.inr GW148.out) _) | exact HK.out)) hb); have n4_ := sb HB hb; clear HO0; clear BK148; clear HK; clear HB; have HO0 := n0_; have HO151 := n1_; have BK148 := n2_; have HK := n3_; have HB := n4_; clear n0_ n1_ n2_ n3_ n4_; clear hb ho8; obtain ⟨Ao10, co10, eo10⟩ := Kd.R_slice HO151.out; subst eo10) | ((with_reducible refine gate_builtin (b := .append) (xs := #[.tmp 9, .tmp 13]) rfl ?_); at_builtin; refine Kd.R_append_rows (Kd.int .u8) (w0 := w0) w0.heap.size rfl (.tmp 9) (.tmp 13) 80 5 (.int .u8 0) 1 rfl Tryd.underlying80 info5 rfl (by decide) (by omega) u9000_ l0 y149 _ _ _ (fun k_ => (P0_ k_ ∨ w.heap.size ≤ k_) ∧ some k_ ≠ (.slice Ao10 y149.length co10 : Value).ownBlock) (fun _ => False) rfl rfl ?aO ?aR (fun _ _ h => h) (fun _ h => h.elim) ?aF ?aB ?aS ?aL ?_; (case aR => repeat (first | exact (Kd.R_reads' HO151.out).2.2 | (with_reducible refine Kd.C_alloc ?_ _) | (with_reducible refine Kd.C_drewN ?_ _) | (with_reducible refine Kd.C_drew ?_))); (case aB => exact (bl HB)); (case aF => exact (fun k_ hk => ⟨(.inr (Nat.le_trans (by first | exact HK.out.1 | exact (show Kept w _ (fun k_ => P0_ k_) from by repeat (first | (with_reducible first | exact HK.out | apply Kept.alloc | apply Kept.drewN | apply Kept.drew | refine Kept.setCell ?_ (.inr GW148.out) _) | exact HK.out)).1) hk)), Kd.fresh' (Kd.R_lt (Kd.rr HO151.out)) k_ hk⟩)); (case aO => exact (Kd.rr HO0.out)); (case aS => exact (below_size (bl HB))); (case aL => have := LMc4.out; omega); intro v153 w9 ho hb hg hat; rw [← Ny152.out] at ho; have n0_ := am (blk_grown (g := gb148) (o := .cells #[.int .i64 a1_0, .int .i64 a1_1, .float .f64 a1_2, .string a1_3] 50 (0, 0)) (bk BK148) hg (Kd.R_ne HO0.out BK148.out (by decide))); have n1_ := am (Kd.R_after (ok := (fun k_ => (P0_ k_ ∨ w.heap.size ≤ k_))) (by (with_reducible repeat (first | apply Kd.R_alloc | apply Kd.R_drewN | apply Kd.R_drew)); exact Kd.R_mono HO151.out (fun _ hk => ⟨hk.1.1, hk.2⟩)) hg hat); have n2_ := am (hb); have n3_ := am (Kept.of_grown (S := (fun k_ => P0_ k_)) hg (by repeat (first | (with_reducible first | exact HK.out | apply Kept.alloc | apply Kept.drewN | apply Kept.drew | refine Kept.setCell ?_ (.inr GW148.out) _) | exact HK.out)) (fun k_ e_ => (HO0.out.1 k_ e_).1)); have n4_ := am (ho); clear BK148; clear HO151; clear HB; clear HK; clear HO0; have BK148 := n0_; have HO151 := n1_; have HB := n2_; have HK := n3_; have HO154 := n4_; clear n0_ n1_ n2_ n3_ n4_; clear ho hb hg hat))
      go_ret
      exact ⟨_, er, by (with_reducible repeat (first | apply Kd.R_alloc | apply Kd.R_drewN | apply Kd.R_drew)); exact Kd.R_mono HO154.out (fun _ hk => hk.1), bl HB, by repeat (first | (with_reducible first | exact HK.out | apply Kept.alloc | apply Kept.drewN | apply Kept.drew | refine Kept.setCell ?_ (.inr GW148.out) _) | exact HK.out)⟩
    · rw [if_neg c4] at H
      exact absurd H (by simp)
  · rw [if_neg c3] at H
    have c3b0 : (a1_0 == 1) = false := beq_eq_false_iff_ne.mpr c3
    have c3b1 : (a1_0 != 1) = true := bne_iff_ne.mpr c3
    by_cases c11 : a1_0 = 2
    · rw [if_pos c11] at H
      have c11b0 : (a1_0 == 2) = true := beq_iff_eq.mpr c11
      have c11b1 : (a1_0 != 2) = false := bne_eq_false_iff_eq.mpr c11
      clear c11
      by_cases c12 : l0.length < 140737488355328
      · rw [if_pos c12] at H
        have LMc12 := am c12
        clear c12
        obtain ⟨y155, hy155⟩ : ∃ y_ : List Int, y_ = (l0 ++ [3]) := ⟨_, rfl⟩
        replace H : ((code_putInt.f k y155 a1_1).bind fun t158 => (some t158)) = some r := by first | (rw [hy155]; with_reducible exact H) | (have H2_ := (Option.bind_some _ _).symm.trans H; rw [hy155]; with_reducible exact H2_) | (have H2_ := (Option.bind_some _ _).symm.trans H; with_reducible exact H2_) | with_reducible exact H | (rw [hy155]; exact H) | exact H
        have Ny155 := am hy155
        clear hy155
        replace H := Option.bind_eq_some_iff.mp H
        obtain ⟨t158, A130, H⟩ := H
        replace H : (some t158) = some r := H
        have A13 := am A130
        clear A130
        obtain rfl := Option.some.inj H
        go_enter Tryd.func68, Tryd.ntmps68
        try go_wp2_with (first | ((with_reducible refine gate_dst (N := 3) rfl ?_); refine box_event rfl (N := 3) rfl (cs := #[.int .i64 a1_0, .int .i64 a1_1, .float .f64 a1_2, .string a1_3]) (t := 50) gs ?_; intro gb148 hg w14 hbox hb; have n0_ := am (Kd.R_below (Kd.rr HO0.out) hb); have n1_ := am (Kept.below (S := (fun k_ => P0_ k_)) (by repeat (first | (with_reducible first | exact HK.out | apply Kept.alloc | apply Kept.drewN | apply Kept.drew) | exact HK.out)) hb); have n2_ := sb HB hb; have n3_ := am (hbox); have n4_ := am ((by rw [hg]; exact (by first | exact HK.out.1 | exact (show Kept w _ (fun k_ => P0_ k_) from by repeat (first | (with_reducible first | exact HK.out | apply Kept.alloc | apply Kept.drewN | apply Kept.drew) | exact HK.out)).1) : w.heap.size ≤ gb148)); have n5_ := am ((by rw [hg]; exact (below_size (bl HB)) : w0.heap.size ≤ gb148)); clear HO0; clear HK; clear HB; have HO0 := n0_; have HK := n1_; have HB := n2_; have BK148 := n3_; have GW148 := n4_; have GE148 := n5_; clear n0_ n1_ n2_ n3_ n4_ n5_; clear hb hbox hg; obtain ⟨Z15_0, Z15_1, Z15_2, Z15_3, Y15_0, Y15_1, Y15_2, Y15_3⟩ := bq4 BK148))
        have n0_ := am (Kd.R_drew HO0.out)
        have n1_ := am (blk_drew BK148.out)
        have n2_ := am (Kept.drew HK.out)
        have n3_ := am (below_drew1 HB.out)
        clear HO0
        clear BK148
        clear HK
        clear HB
        have HO0 := n0_
        have BK148 := n1_
        have HK := n2_
        have HB := n3_
        clear n0_ n1_ n2_ n3_
        refine start_ (n := 7) (S := fun w' => w'.cell? ⟨gb148, 0, none⟩ = some (.int .i64 a1_0) ∧ w'.cell? ⟨gb148, 1, none⟩ = some (.int .i64 a1_1) ∧ w'.cell? ⟨gb148, 2, none⟩ = some (.float .f64 a1_2) ∧ w'.cell? ⟨gb148, 3, none⟩ = some (.string a1_3)) (ds := []) (bb 0 7) (by kernel_rfl) rfl rfl ⟨(blk_cell BK148.out 0).trans rfl, (blk_cell BK148.out 1).trans rfl, (blk_cell BK148.out 2).trans rfl, (blk_cell BK148.out 3).trans rfl⟩ (fun hHeld => ?_)
        generalize w14.drew = w16 at HO0 BK148 HK HB hHeld ⊢
        refine pure_ (i := 0) (N := some 17) (v := ?_) (a' := ?_) (bb 1 7) rfl rfl (by kernel_rfl) (fun _ _ _ h => h) (Or.inl ⟨by rfl, ?_⟩) ?_ ?_
        rotate_left
        · intro w'
          go_simp
          with_reducible rfl
        rotate_left
        · simp only [Act.put, List.setIfInBounds_toArray, List.set_cons_zero, List.set_cons_succ, i64_w, i32_w]
          rfl
        refine pure_ (i := 3) (N := some 20) (v := ?_) (a' := ?_) (bs 7 9) rfl rfl (by kernel_rfl) (fun _ _ _ h => h) (Or.inl ⟨by rfl, ?_⟩) ?_ ?_
        rotate_left
        · intro w'
          go_simp
          with_reducible rfl
        rotate_left
        · simp only [Act.put, List.setIfInBounds_toArray, List.set_cons_zero, List.set_cons_succ, i64_w, i32_w]
          rfl
        refine take_ (i := 4) (N := some 21) (v := ?_) (a' := ?_) (bs 7 25) rfl rfl (by kernel_rfl) (fun _ _ _ h => h) (Or.inl ⟨by rfl, ?_⟩) hHeld ?_ ?_
        rotate_left
        · rintro w' ⟨s0, s1, s2, s3⟩
          go_simp
          with_reducible rfl
        rotate_left
        · simp only [Act.put, List.setIfInBounds_toArray, List.set_cons_zero, List.set_cons_succ, i64_w, i32_w]
          rfl
        refine one_ (i := 1) (N := some 18) (bs 7 27) rfl rfl (by kernel_rfl) (by decide) (fun K hK => ?_)
        refine value_ (w1 := ?_) (v := ?_) (by rfl) rfl ?_ ?_
        rotate_left 2
        · go_simp
          constructor
          · rfl
          · rfl
        refine hK.out _ _ ⟨(blk_cell (blk_alloc BK148.out _) 0).trans rfl, (blk_cell (blk_alloc BK148.out _) 1).trans rfl, (blk_cell (blk_alloc BK148.out _) 2).trans rfl, (blk_cell (blk_alloc BK148.out _) 3).trans rfl⟩ (fun hHeld => ?_)
        clear hK K
        refine norm_ (a' := ?_) ?_ ?_
        rotate_left
        · show Act.put _ (some 18) _ = _
          simp only [Act.put, List.setIfInBounds_toArray, List.set_cons_zero, List.set_cons_succ, i64_w, i32_w]
          rfl
        refine one_ (i := 2) (N := some 19) (bb 5 7) rfl rfl (by kernel_rfl) (by decide) (fun K hK => ?_)
        refine Kd.R_append_step (Kd.int .u8) (w0 := w0) w0.heap.size (by rfl) (.tmp 17) (.tmp 18) 80 5 (.int .u8 0) 1 rfl Tryd.underlying80 info5 rfl (by decide) (by omega) u9000_ l0 3 [.int .u8 3] (fun k_ => (P0_ k_ ∨ w.heap.size ≤ k_)) (fun _ => False) rfl rfl ?aP (fun _ hk => hk.elim) ?aF ?aO ?aB ?aS ?aL ?_
        (case aP => exact rfl)
        (case aB => exact (bl HB))
        (case aF => exact (fun k_ hk => (.inr (Nat.le_trans (by first | exact HK.out.1 | exact (show Kept w _ (fun k_ => P0_ k_) from by repeat (first | (with_reducible first | exact HK.out | apply Kept.alloc | apply Kept.drewN | apply Kept.drew | refine Kept.setCell ?_ (.inr GW148.out) _) | exact HK.out)).1) hk))))
        (case aO => exact (Kd.rr HO0.out))
        (case aS => exact (below_size (bl HB)))
        (case aL => have := LMc12.out; omega)
        intro v156 w17 ho hb hg hat
        rw [← Ny155.out] at ho
        have n0_ := am (blk_grown (g := gb148) (o := .cells #[.int .i64 a1_0, .int .i64 a1_1, .float .f64 a1_2, .string a1_3] 50 (0, 0)) (bk BK148) hg (Kd.R_ne HO0.out BK148.out (by decide)))
        have n1_ := am (hb)
        have n2_ := am (Kept.of_grown (S := (fun k_ => P0_ k_)) hg (by repeat (first | (with_reducible first | exact HK.out | apply Kept.alloc | apply Kept.drewN | apply Kept.drew | refine Kept.setCell ?_ (.inr GW148.out) _) | exact HK.out)) (fun k_ e_ => (HO0.out.1 k_ e_)))
        have n3_ := am (ho)
        clear BK148
        clear HB
        clear HK
        clear HO0
        have BK148 := n0_
        have HB := n1_
        have HK := n2_
        have HO157 := n3_
        clear n0_ n1_ n2_ n3_
        clear ho hb hg hat
        obtain ⟨Ao18, co18, eo18⟩ := Kd.R_slice HO157.out
        (first | subst eo18 | (injection eo18 with f1_ f2_ f3_; have f4_ := f1_.symm; have f5_ := f3_.symm; clear f1_ f2_ f3_; subst f4_; subst f5_))
        refine hK.out _ _ ⟨(blk_cell BK148.out 0).trans rfl, (blk_cell BK148.out 1).trans rfl, (blk_cell BK148.out 2).trans rfl, (blk_cell BK148.out 3).trans rfl⟩ (fun hHeld => ?_)
        clear hK K
        refine norm_ (a' := ?_) ?_ ?_
        rotate_left
        · show Act.put _ (some 19) _ = _
          simp only [Act.put, List.setIfInBounds_toArray, List.set_cons_zero, List.set_cons_succ, i64_w, i32_w]
          rfl
        refine one_ (i := 5) (N := some 22) (bb 6 7) rfl rfl (by kernel_rfl) (by decide) (fun K hK => ?_)
        refine goes_ Tryd.func100 (by kernel_rfl) rfl #[.slice Ao18 y155.length co18, .int .i64 a1_1] (by rfl) rfl rfl ar ?_
        with_reducible refine (code_putInt.calls k (fun k_ => some k_ = (.slice Ao18 y155.length co18 : Value).ownBlock) (.slice Ao18 y155.length co18) y155 a1_1 t158 w0 _ ?side1 ?side2 A13.out).mono ?_
        (case side1 => repeat (first | (with_reducible first | exact HB.out | apply below_alloc | apply pw_below_drewN | apply below_drew1 | refine below_set ?_ GE148.out) | exact HB.out))
        (case side2 => exact Kd.R_tight rfl HO157.out)
        rintro e w19 ⟨v159, rfl, ho0, hb, hkp⟩
        refine ⟨_, rfl, ?_⟩
        have n0_ := am (blk_kept (bk BK148) hkp (fun hs_ => (fun e_ => (Kd.R_ne HO157.out BK148.out (by decide)) e_) hs_))
        have n1_ := am (Kd.R_mono (ok' := fun k_ => (P0_ k_ ∨ w.heap.size ≤ k_)) ho0 (fun k_ hk_ => Or.elim hk_ (fun hs_ => (HO157.out.1 k_ (hs_).symm)) (fun hn_ => (.inr (Nat.le_trans (by first | exact HK.out.1 | exact (show Kept w _ (fun k_ => P0_ k_) from by repeat (first | (with_reducible first | exact HK.out | apply Kept.alloc | apply Kept.drewN | apply Kept.drew | refine Kept.setCell ?_ (.inr GW148.out) _) | exact HK.out)).1) hn_)))))
        have n2_ := am (Kept.then_ (S := (fun k_ => P0_ k_)) (by repeat (first | (with_reducible first | exact HK.out | apply Kept.alloc | apply Kept.drewN | apply Kept.drew | refine Kept.setCell ?_ (.inr GW148.out) _) | exact HK.out)) hkp (fun k_ hs_ => (fun e_ => (HO157.out.1 k_ e_.symm)) hs_))
        have n3_ := am (hb)
        clear BK148
        clear HK
        clear HB
        clear HO157
        have BK148 := n0_
        have HO160 := n1_
        have HK := n2_
        have HB := n3_
        clear n0_ n1_ n2_ n3_
        (try clear hb)
        (try clear hkp)
        (try clear ho0)
        refine hK.out _ _ ⟨(blk_cell BK148.out 0).trans rfl, (blk_cell BK148.out 1).trans rfl, (blk_cell BK148.out 2).trans rfl, (blk_cell BK148.out 3).trans rfl⟩ (fun hHeld => ?_)
        clear hK K
        refine norm_ (a' := ?_) ?_ ?_
        rotate_left
        · show Act.put _ (some 22) _ = _
          simp only [Act.put, List.setIfInBounds_toArray, List.set_cons_zero, List.set_cons_succ, i64_w, i32_w]
          rfl
        refine pure_ (i := 6) (N := some 4) (v := ?_) (a' := ?_) (bb 7 7) rfl rfl (by kernel_rfl) (fun _ _ _ h => h) (Or.inl ⟨by rfl, ?_⟩) ?_ ?_
        rotate_left
        · intro w'
          go_simp
          with_reducible rfl
        rotate_left
        · simp only [Act.put, List.setIfInBounds_toArray, List.set_cons_zero, List.set_cons_succ, i64_w, i32_w]
          rfl
        refine done_ (by kernel_rfl) ?_
        try go_wp2
        go_ret
        exact ⟨_, er, Kd.rr HO160.out, bl HB, by repeat (first | (with_reducible first | exact HK.out | apply Kept.alloc | apply Kept.drewN | apply Kept.drew | refine Kept.setCell ?_ (.inr GW148.out) _) | exact HK.out)⟩
      · rw [if_neg c12] at H
        exact absurd H (by simp)
    · rw [if_neg c11] at H
      have c11b0 : (a1_0 == 2) = false := beq_eq_false_iff_ne.mpr c11
      have c11b1 : (a1_0 != 2) = true := bne_iff_ne.mpr c11
      by_cases c20 : a1_0 = 3
      · rw [if_pos c20] at H
        have c20b0 : (a1_0 == 3) = true := beq_iff_eq.mpr c20
        have c20b1 : (a1_0 != 3) = false := bne_eq_false_iff_eq.mpr c20
        clear c20
        by_cases c21 : l0.length < 140737488355328
        · rw [if_pos c21] at H
          have LMc21 := am c21
          clear c21
          obtain ⟨y161, hy161⟩ : ∃ y_ : List Int, y_ = (l0 ++ [4]) := ⟨_, rfl⟩
          replace H : ((value_Plain.f k a1_0 a1_1 a1_2 a1_3).bind fun bt164 => ((code_putFloat.f k y161 bt164.2.2.1).bind fun t168 => (some t168))) = some r := by first | (rw [hy161]; with_reducible exact H) | (have H2_ := (Option.bind_some _ _).symm.trans H; rw [hy161]; with_reducible exact H2_) | (have H2_ := (Option.bind_some _ _).symm.trans H; with_reducible exact H2_) | with_reducible exact H | (rw [hy161]; exact H) | exact H
          have Ny161 := am hy161
          clear hy161
          replace H := Option.bind_eq_some_iff.mp H
          obtain ⟨⟨t164, t165, t166, t167⟩, A220, H⟩ := H
          replace H : ((code_putFloat.f k y161 t166).bind fun t168 => (some t168)) = some r := H
          have A22 := am A220
          clear A220
          replace H := Option.bind_eq_some_iff.mp H
          obtain ⟨t168, A230, H⟩ := H
          replace H : (some t168) = some r := H
          have A23 := am A230
          clear A230
          obtain rfl := Option.some.inj H
          go_enter Tryd.func68, Tryd.ntmps68
          try go_wp2_with (first | ((with_reducible refine gate_dst (N := 3) rfl ?_); refine box_event rfl (N := 3) rfl (cs := #[.int .i64 a1_0, .int .i64 a1_1, .float .f64 a1_2, .string a1_3]) (t := 50) gs ?_; intro gb148 hg w24 hbox hb; have n0_ := am (Kd.R_below (Kd.rr HO0.out) hb); have n1_ := am (Kept.below (S := (fun k_ => P0_ k_)) (by repeat (first | (with_reducible first | exact HK.out | apply Kept.alloc | apply Kept.drewN | apply Kept.drew) | exact HK.out)) hb); have n2_ := sb HB hb; have n3_ := am (hbox); have n4_ := am ((by rw [hg]; exact (by first | exact HK.out.1 | exact (show Kept w _ (fun k_ => P0_ k_) from by repeat (first | (with_reducible first | exact HK.out | apply Kept.alloc | apply Kept.drewN | apply Kept.drew) | exact HK.out)).1) : w.heap.size ≤ gb148)); have n5_ := am ((by rw [hg]; exact (below_size (bl HB)) : w0.heap.size ≤ gb148)); clear HO0; clear HK; clear HB; have HO0 := n0_; have HK := n1_; have HB := n2_; have BK148 := n3_; have GW148 := n4_; have GE148 := n5_; clear n0_ n1_ n2_ n3_ n4_ n5_; clear hb hbox hg; obtain ⟨Z25_0, Z25_1, Z25_2, Z25_3, Y25_0, Y25_1, Y25_2, Y25_3⟩ := bq4 BK148))
          have n0_ := am (Kd.R_drew HO0.out)
          have n1_ := am (blk_drew BK148.out)
          have n2_ := am (Kept.drew HK.out)
          have n3_ := am (below_drew1 HB.out)
          clear HO0
          clear BK148
          clear HK
          clear HB
          have HO0 := n0_
          have BK148 := n1_
          have HK := n2_
          have HB := n3_
          clear n0_ n1_ n2_ n3_
          refine start_ (n := 8) (S := fun w' => w'.cell? ⟨gb148, 0, none⟩ = some (.int .i64 a1_0) ∧ w'.cell? ⟨gb148, 1, none⟩ = some (.int .i64 a1_1) ∧ w'.cell? ⟨gb148, 2, none⟩ = some (.float .f64 a1_2) ∧ w'.cell? ⟨gb148, 3, none⟩ = some (.string a1_3)) (ds := []) (bb 0 8) (by kernel_rfl) rfl rfl ⟨(blk_cell BK148.out 0).trans rfl, (blk_cell BK148.out 1).trans rfl, (blk_cell BK148.out 2).trans rfl, (blk_cell BK148.out 3).trans rfl⟩ (fun hHeld => ?_); refine with_tabW code_put.tab7 code_put.bits7 (fun HT_ HW_ => ?_)
          generalize w24.drew = w26 at HO0 BK148 HK HB hHeld ⊢
          refine pu HT_ 0 (some 25) (bb 1 8) ?_
          refine tk HT_ HW_ hHeld 3 (some 28) (bs 8 9) ?_
          refine one_ (i := 1) (N := some 26) (bs 8 11) rfl rfl (one_of HT_.out (by kernel_rfl)) (by decide) (fun K hK => ?_)
          refine value_ (w1 := ?_) (v := ?_) (by rfl) rfl ?_ ?_
          rotate_left 2
          · go_simp
            constructor
            · rfl
            · rfl
          refine hK.out _ _ ⟨(blk_cell (blk_alloc BK148.out _) 0).trans rfl, (blk_cell (blk_alloc BK148.out _) 1).trans rfl, (blk_cell (blk_alloc BK148.out _) 2).trans rfl, (blk_cell (blk_alloc BK148.out _) 3).trans rfl⟩ (fun hHeld => ?_)
          clear hK K
          refine norm_ (a' := ?_) ?_ ?_
          rotate_left
          · show Act.put _ (some 26) _ = _
            simp only [Act.put, List.setIfInBounds_toArray, List.set_cons_zero, List.set_cons_succ, i64_w, i32_w]
            rfl
          refine one_ (i := 2) (N := some 27) (bb 4 8) rfl rfl (one_of HT_.out (by kernel_rfl)) (by decide) (fun K hK => ?_)
          refine Kd.R_append_step (Kd.int .u8) (w0 := w0) w0.heap.size (by rfl) (.tmp 25) (.tmp 26) 80 5 (.int .u8 0) 1 rfl Tryd.underlying80 info5 rfl (by decide) (by omega) u9000_ l0 4 [.int .u8 4] (fun k_ => (P0_ k_ ∨ w.heap.size ≤ k_)) (fun _ => False) rfl rfl ?aP (fun _ hk => hk.elim) ?aF ?aO ?aB ?aS ?aL ?_
          (case aP => exact rfl)
          (case aB => exact (bl HB))
          (case aF => exact (fun k_ hk => (.inr (Nat.le_trans (by first | exact HK.out.1 | exact (show Kept w _ (fun k_ => P0_ k_) from by repeat (first | (with_reducible first | exact HK.out | apply Kept.alloc | apply Kept.drewN | apply Kept.drew | refine Kept.setCell ?_ (.inr GW148.out) _) | exact HK.out)).1) hk))))
          (case aO => exact (Kd.rr HO0.out))
          (case aS => exact (below_size (bl HB)))
          (case aL => have := LMc21.out; omega)
          intro v162 w27 ho hb hg hat
          rw [← Ny161.out] at ho
          have n0_ := am (blk_grown (g := gb148) (o := .cells #[.int .i64 a1_0, .int .i64 a1_1, .float .f64 a1_2, .string a1_3] 50 (0, 0)) (bk BK148) hg (Kd.R_ne HO0.out BK148.out (by decide)))
          have n1_ := am (hb)
          have n2_ := am (Kept.of_grown (S := (fun k_ => P0_ k_)) hg (by repeat (first | (with_reducible first | exact HK.out | apply Kept.alloc | apply Kept.drewN | apply Kept.drew | refine Kept.setCell ?_ (.inr GW148.out) _) | exact HK.out)) (fun k_ e_ => (HO0.out.1 k_ e_)))
          have n3_ := am (ho)
          clear BK148
          clear HB
          clear HK
          clear HO0
          have BK148 := n0_
          have HB := n1_
          have HK := n2_
          have HO163 := n3_
          clear n0_ n1_ n2_ n3_
          clear ho hb hg hat
          refine hK.out _ _ ⟨(blk_cell BK148.out 0).trans rfl, (blk_cell BK148.out 1).trans rfl, (blk_cell BK148.out 2).trans rfl, (blk_cell BK148.out 3).trans rfl⟩ (fun hHeld => ?_)
          clear hK K
          refine norm_ (a' := ?_) ?_ ?_
          rotate_left
          · show Act.put _ (some 27) _ = _
            simp only [Act.put, List.setIfInBounds_toArray, List.set_cons_zero, List.set_cons_succ, i64_w, i32_w]
            rfl
          refine one_ (i := 4) (N := some 29) (bb 5 8) rfl rfl (one_of HT_.out (by kernel_rfl)) (by decide) (fun K hK => ?_)
          refine goes_ Tryd.func102 (by kernel_rfl) rfl #[.agg #[.int .i64 a1_0, .int .i64 a1_1, .float .f64 a1_2, .string a1_3]] (by rfl) rfl rfl ar ?_
          with_reducible refine (value_Plain.calls k a1_0 a1_1 a1_2 a1_3 t164 t165 t166 t167 _ A22.out).mono ?_
          rintro e w28 ⟨rfl, hb⟩
          refine ⟨_, rfl, ?_⟩
          have n0_ := am (Kd.R_below (Kd.rr HO163.out) hb)
          have n1_ := kb BK148 hb
          have n2_ := am (Kept.below (S := (fun k_ => P0_ k_)) (by repeat (first | (with_reducible first | exact HK.out | apply Kept.alloc | apply Kept.drewN | apply Kept.drew | refine Kept.setCell ?_ (.inr GW148.out) _) | exact HK.out)) hb)
          have n3_ := sb HB hb
          clear HO163
          clear BK148
          clear HK
          clear HB
          have HO163 := n0_
          have BK148 := n1_
          have HK := n2_
          have HB := n3_
          clear n0_ n1_ n2_ n3_
          (try clear hb)
          (try clear hb2)
          (try clear hk)
          (try clear hi)
          obtain ⟨Ao29, co29, eo29⟩ := Kd.R_slice HO163.out
          (first | subst eo29 | (injection eo29 with f1_ f2_ f3_; have f4_ := f1_.symm; have f5_ := f3_.symm; clear f1_ f2_ f3_; subst f4_; subst f5_))
          refine hK.out _ _ ⟨(blk_cell BK148.out 0).trans rfl, (blk_cell BK148.out 1).trans rfl, (blk_cell BK148.out 2).trans rfl, (blk_cell BK148.out 3).trans rfl⟩ (fun hHeld => ?_)
          clear hK K
          refine norm_ (a' := ?_) ?_ ?_
          rotate_left
          · show Act.put _ (some 29) _ = _
            simp only [Act.put, List.setIfInBounds_toArray, List.set_cons_zero, List.set_cons_succ, i64_w, i32_w]
            rfl
          refine pu HT_ 5 (some 30) (bb 6 8) ?_
          refine one_ (i := 6) (N := some 31) (bb 7 8) rfl rfl (one_of HT_.out (by kernel_rfl)) (by decide) (fun K hK => ?_)
          refine goes_ Tryd.func101 (by kernel_rfl) rfl #[.slice Ao29 y161.length co29, .float .f64 t166] (by rfl) rfl rfl ar ?_
          with_reducible refine (code_putFloat.calls k (fun k_ => some k_ = (.slice Ao29 y161.length co29 : Value).ownBlock) (.slice Ao29 y161.length co29) y161 t166 t168 w0 _ ?side1 ?side2 A23.out).mono ?_
          (case side1 => repeat (first | (with_reducible first | exact HB.out | apply below_alloc | apply pw_below_drewN | apply below_drew1 | refine below_set ?_ GE148.out) | exact HB.out))
          (case side2 => exact Kd.R_tight rfl HO163.out)
          rintro e w30 ⟨v169, rfl, ho0, hb, hkp⟩
          refine ⟨_, rfl, ?_⟩
          have n0_ := am (blk_kept (bk BK148) hkp (fun hs_ => (fun e_ => (Kd.R_ne HO163.out BK148.out (by decide)) e_) hs_))
          have n1_ := am (Kd.R_mono (ok' := fun k_ => (P0_ k_ ∨ w.heap.size ≤ k_)) ho0 (fun k_ hk_ => Or.elim hk_ (fun hs_ => (HO163.out.1 k_ (hs_).symm)) (fun hn_ => (.inr (Nat.le_trans (by first | exact HK.out.1 | exact (show Kept w _ (fun k_ => P0_ k_) from by repeat (first | (with_reducible first | exact HK.out | apply Kept.alloc | apply Kept.drewN | apply Kept.drew | refine Kept.setCell ?_ (.inr GW148.out) _) | exact HK.out)).1) hn_)))))
          have n2_ := am (Kept.then_ (S := (fun k_ => P0_ k_)) (by repeat (first | (with_reducible first | exact HK.out | apply Kept.alloc | apply Kept.drewN | apply Kept.drew | refine Kept.setCell ?_ (.inr GW148.out) _) | exact HK.out)) hkp (fun k_ hs_ => (fun e_ => (HO163.out.1 k_ e_.symm)) hs_))
          have n3_ := am (hb)
          clear BK148
          clear HK
          clear HB
          clear HO163
          have BK148 := n0_
          have HO170 := n1_
          have HK := n2_
          have HB := n3_
          clear n0_ n1_ n2_ n3_
          (try clear hb)
          (try clear hkp)
          (try clear ho0)
          refine hK.out _ _ ⟨(blk_cell BK148.out 0).trans rfl, (blk_cell BK148.out 1).trans rfl, (blk_cell BK148.out 2).trans rfl, (blk_cell BK148.out 3).trans rfl⟩ (fun hHeld => ?_)
          clear hK K
          refine norm_ (a' := ?_) ?_ ?_
          rotate_left
          · show Act.put _ (some 31) _ = _
            simp only [Act.put, List.setIfInBounds_toArray, List.set_cons_zero, List.set_cons_succ, i64_w, i32_w]
            rfl
          refine pu HT_ 7 (some 4) (bb 8 8) ?_
          refine done_ (done_of HT_.out (by kernel_rfl)) ?_
          try go_wp2
          go_ret
          exact ⟨_, er, Kd.rr HO170.out, bl HB, by repeat (first | (with_reducible first | exact HK.out | apply Kept.alloc | apply Kept.drewN | apply Kept.drew | refine Kept.setCell ?_ (.inr GW148.out) _) | exact HK.out)⟩
        · rw [if_neg c21] at H
          exact absurd H (by simp)
      · rw [if_neg c20] at H
        have c20b0 : (a1_0 == 3) = false := beq_eq_false_iff_ne.mpr c20
        have c20b1 : (a1_0 != 3) = true := bne_iff_ne.mpr c20
        by_cases c31 : a1_0 = 4
        · rw [if_pos c31] at H
          have c31b0 : (a1_0 == 4) = true := beq_iff_eq.mpr c31
          have c31b1 : (a1_0 != 4) = false := bne_eq_false_iff_eq.mpr c31
          clear c31
          by_cases c32 : l0.length < 140737488355328
          · rw [if_pos c32] at H
            have LMc32 := am c32
            clear c32
            obtain ⟨y171, hy171⟩ : ∃ y_ : List Int, y_ = (l0 ++ [5]) := ⟨_, rfl⟩
            replace H : ((code_putString.f y171 a1_3).bind fun t174 => (some t174)) = some r := by first | (rw [hy171]; with_reducible exact H) | (have H2_ := (Option.bind_some _ _).symm.trans H; rw [hy171]; with_reducible exact H2_) | (have H2_ := (Option.bind_some _ _).symm.trans H; with_reducible exact H2_) | with_reducible exact H | (rw [hy171]; exact H) | exact H
            have Ny171 := am hy171
            clear hy171
            replace H := Option.bind_eq_some_iff.mp H
            obtain ⟨t174, A330, H⟩ := H
            replace H : (some t174) = some r := H
            have A33 := am A330
            clear A330
            obtain rfl := Option.some.inj H
            go_enter Tryd.func68, Tryd.ntmps68
            try go_wp2_with (first | ((with_reducible refine gate_dst (N := 3) rfl ?_); refine box_event rfl (N := 3) rfl (cs := #[.int .i64 a1_0, .int .i64 a1_1, .float .f64 a1_2, .string a1_3]) (t := 50) gs ?_; intro gb148 hg w34 hbox hb; have n0_ := am (Kd.R_below (Kd.rr HO0.out) hb); have n1_ := am (Kept.below (S := (fun k_ => P0_ k_)) (by repeat (first | (with_reducible first | exact HK.out | apply Kept.alloc | apply Kept.drewN | apply Kept.drew) | exact HK.out)) hb); have n2_ := sb HB hb; have n3_ := am (hbox); have n4_ := am ((by rw [hg]; exact (by first | exact HK.out.1 | exact (show Kept w _ (fun k_ => P0_ k_) from by repeat (first | (with_reducible first | exact HK.out | apply Kept.alloc | apply Kept.drewN | apply Kept.drew) | exact HK.out)).1) : w.heap.size ≤ gb148)); have n5_ := am ((by rw [hg]; exact (below_size (bl HB)) : w0.heap.size ≤ gb148)); clear HO0; clear HK; clear HB; have HO0 := n0_; have HK := n1_; have HB := n2_; have BK148 := n3_; have GW148 := n4_; have GE148 := n5_; clear n0_ n1_ n2_ n3_ n4_ n5_; clear hb hbox hg; obtain ⟨Z35_0, Z35_1, Z35_2, Z35_3, Y35_0, Y35_1, Y35_2, Y35_3⟩ := bq4 BK148))
            have n0_ := am (Kd.R_drew HO0.out)
            have n1_ := am (blk_drew BK148.out)
            have n2_ := am (Kept.drew HK.out)
            have n3_ := am (below_drew1 HB.out)
            clear HO0
            clear BK148
            clear HK
            clear HB
            have HO0 := n0_
            have BK148 := n1_
            have HK := n2_
            have HB := n3_
            clear n0_ n1_ n2_ n3_
            refine start_ (n := 7) (S := fun w' => w'.cell? ⟨gb148, 0, none⟩ = some (.int .i64 a1_0) ∧ w'.cell? ⟨gb148, 1, none⟩ = some (.int .i64 a1_1) ∧ w'.cell? ⟨gb148, 2, none⟩ = some (.float .f64 a1_2) ∧ w'.cell? ⟨gb148, 3, none⟩ = some (.string a1_3)) (ds := []) (bb 0 7) (by kernel_rfl) rfl rfl ⟨(blk_cell BK148.out 0).trans rfl, (blk_cell BK148.out 1).trans rfl, (blk_cell BK148.out 2).trans rfl, (blk_cell BK148.out 3).trans rfl⟩ (fun hHeld => ?_)
            generalize w34.drew = w36 at HO0 BK148 HK HB hHeld ⊢
            refine pure_ (i := 0) (N := some 34) (v := ?_) (a' := ?_) (bb 1 7) rfl rfl (by kernel_rfl) (fun _ _ _ h => h) (Or.inl ⟨by rfl, ?_⟩) ?_ ?_
            rotate_left
            · intro w'
              go_simp
              with_reducible rfl
            rotate_left
            · simp only [Act.put, List.setIfInBounds_toArray, List.set_cons_zero, List.set_cons_succ, i64_w, i32_w]
              rfl
            refine pure_ (i := 3) (N := some 37) (v := ?_) (a' := ?_) (bs 7 9) rfl rfl (by kernel_rfl) (fun _ _ _ h => h) (Or.inl ⟨by rfl, ?_⟩) ?_ ?_
            rotate_left
            · intro w'
              go_simp
              with_reducible rfl
            rotate_left
            · simp only [Act.put, List.setIfInBounds_toArray, List.set_cons_zero, List.set_cons_succ, i64_w, i32_w]
              rfl
            refine take_ (i := 4) (N := some 38) (v := ?_) (a' := ?_) (bs 7 25) rfl rfl (by kernel_rfl) (fun _ _ _ h => h) (Or.inl ⟨by rfl, ?_⟩) hHeld ?_ ?_
            rotate_left
            · rintro w' ⟨s0, s1, s2, s3⟩
              go_simp
              with_reducible rfl
            rotate_left
            · simp only [Act.put, List.setIfInBounds_toArray, List.set_cons_zero, List.set_cons_succ, i64_w, i32_w]
              rfl
            refine one_ (i := 1) (N := some 35) (bs 7 27) rfl rfl (by kernel_rfl) (by decide) (fun K hK => ?_)
            refine value_ (w1 := ?_) (v := ?_) (by rfl) rfl ?_ ?_
            rotate_left 2
            · go_simp
              constructor
              · rfl
              · rfl
            refine hK.out _ _ ⟨(blk_cell (blk_alloc BK148.out _) 0).trans rfl, (blk_cell (blk_alloc BK148.out _) 1).trans rfl, (blk_cell (blk_alloc BK148.out _) 2).trans rfl, (blk_cell (blk_alloc BK148.out _) 3).trans rfl⟩ (fun hHeld => ?_)
            clear hK K
            refine norm_ (a' := ?_) ?_ ?_
            rotate_left
            · show Act.put _ (some 35) _ = _
              simp only [Act.put, List.setIfInBounds_toArray, List.set_cons_zero, List.set_cons_succ, i64_w, i32_w]
              rfl
            refine one_ (i := 2) (N := some 36) (bb 5 7) rfl rfl (by kernel_rfl) (by decide) (fun K hK => ?_)
            refine Kd.R_append_step (Kd.int .u8) (w0 := w0) w0.heap.size (by rfl) (.tmp 34) (.tmp 35) 80 5 (.int .u8 0) 1 rfl Tryd.underlying80 info5 rfl (by decide) (by omega) u9000_ l0 5 [.int .u8 5] (fun k_ => (P0_ k_ ∨ w.heap.size ≤ k_)) (fun _ => False) rfl rfl ?aP (fun _ hk => hk.elim) ?aF ?aO ?aB ?aS ?aL ?_
            (case aP => exact rfl)
            (case aB => exact (bl HB))
            (case aF => exact (fun k_ hk => (.inr (Nat.le_trans (by first | exact HK.out.1 | exact (show Kept w _ (fun k_ => P0_ k_) from by repeat (first | (with_reducible first | exact HK.out | apply Kept.alloc | apply Kept.drewN | apply Kept.drew | refine Kept.setCell ?_ (.inr GW148.out) _) | exact HK.out)).1) hk))))
            (case aO => exact (Kd.rr HO0.out))
            (case aS => exact (below_size (bl HB)))
            (case aL => have := LMc32.out; omega)
            intro v172 w37 ho hb hg hat
            rw [← Ny171.out] at ho
            have n0_ := am (blk_grown (g := gb148) (o := .cells #[.int .i64 a1_0, .int .i64 a1_1, .float .f64 a1_2, .string a1_3] 50 (0, 0)) (bk BK148) hg (Kd.R_ne HO0.out BK148.out (by decide)))
            have n1_ := am (hb)
            have n2_ := am (Kept.of_grown (S := (fun k_ => P0_ k_)) hg (by repeat (first | (with_reducible first | exact HK.out | apply Kept.alloc | apply Kept.drewN | apply Kept.drew | refine Kept.setCell ?_ (.inr GW148.out) _) | exact HK.out)) (fun k_ e_ => (HO0.out.1 k_ e_)))
            have n3_ := am (ho)
            clear BK148
            clear HB
            clear HK
            clear HO0
            have BK148 := n0_
            have HB := n1_
            have HK := n2_
            have HO173 := n3_
            clear n0_ n1_ n2_ n3_
            clear ho hb hg hat
            obtain ⟨Ao38, co38, eo38⟩ := Kd.R_slice HO173.out
            (first | subst eo38 | (injection eo38 with f1_ f2_ f3_; have f4_ := f1_.symm; have f5_ := f3_.symm; clear f1_ f2_ f3_; subst f4_; subst f5_))
            refine hK.out _ _ ⟨(blk_cell BK148.out 0).trans rfl, (blk_cell BK148.out 1).trans rfl, (blk_cell BK148.out 2).trans rfl, (blk_cell BK148.out 3).trans rfl⟩ (fun hHeld => ?_)
            clear hK K
            refine norm_ (a' := ?_) ?_ ?_
            rotate_left
            · show Act.put _ (some 36) _ = _
              simp only [Act.put, List.setIfInBounds_toArray, List.set_cons_zero, List.set_cons_succ, i64_w, i32_w]
              rfl
            refine one_ (i := 5) (N := some 39) (bb 6 7) rfl rfl (by kernel_rfl) (by decide) (fun K hK => ?_)
            refine goes_ Tryd.func103 (by kernel_rfl) rfl #[.slice Ao38 y171.length co38, .string a1_3] (by rfl) rfl rfl ar ?_
            with_reducible refine (code_putString.calls (fun k_ => some k_ = (.slice Ao38 y171.length co38 : Value).ownBlock) (.slice Ao38 y171.length co38) y171 a1_3 t174 w0 _ ?side1 ?side2 ?side3 A33.out).mono ?_
            (case side1 => repeat (first | (with_reducible first | exact HB.out | apply below_alloc | apply pw_below_drewN | apply below_drew1 | refine below_set ?_ GE148.out) | exact HB.out))
            (case side2 => exact Kd.R_tight rfl HO173.out)
            (case side3 => exact HG.out)
            rintro e w39 ⟨v175, rfl, ho0, hb, hkp⟩
            refine ⟨_, rfl, ?_⟩
            have n0_ := am (blk_kept (bk BK148) hkp (fun hs_ => (fun e_ => (Kd.R_ne HO173.out BK148.out (by decide)) e_) hs_))
            have n1_ := am (Kd.R_mono (ok' := fun k_ => (P0_ k_ ∨ w.heap.size ≤ k_)) ho0 (fun k_ hk_ => Or.elim hk_ (fun hs_ => (HO173.out.1 k_ (hs_).symm)) (fun hn_ => (.inr (Nat.le_trans (by first | exact HK.out.1 | exact (show Kept w _ (fun k_ => P0_ k_) from by repeat (first | (with_reducible first | exact HK.out | apply Kept.alloc | apply Kept.drewN | apply Kept.drew | refine Kept.setCell ?_ (.inr GW148.out) _) | exact HK.out)).1) hn_)))))
            have n2_ := am (Kept.then_ (S := (fun k_ => P0_ k_)) (by repeat (first | (with_reducible first | exact HK.out | apply Kept.alloc | apply Kept.drewN | apply Kept.drew | refine Kept.setCell ?_ (.inr GW148.out) _) | exact HK.out)) hkp (fun k_ hs_ => (fun e_ => (HO173.out.1 k_ e_.symm)) hs_))
            have n3_ := am (hb)
            clear BK148
            clear HK
            clear HB
            clear HO173
            have BK148 := n0_
            have HO176 := n1_
            have HK := n2_
            have HB := n3_
            clear n0_ n1_ n2_ n3_
            (try clear hb)
            (try clear hkp)
            (try clear ho0)
            refine hK.out _ _ ⟨(blk_cell BK148.out 0).trans rfl, (blk_cell BK148.out 1).trans rfl, (blk_cell BK148.out 2).trans rfl, (blk_cell BK148.out 3).trans rfl⟩ (fun hHeld => ?_)
            clear hK K
            refine norm_ (a' := ?_) ?_ ?_
            rotate_left
            · show Act.put _ (some 39) _ = _
              simp only [Act.put, List.setIfInBounds_toArray, List.set_cons_zero, List.set_cons_succ, i64_w, i32_w]
              rfl
            refine pure_ (i := 6) (N := some 4) (v := ?_) (a' := ?_) (bb 7 7) rfl rfl (by kernel_rfl) (fun _ _ _ h => h) (Or.inl ⟨by rfl, ?_⟩) ?_ ?_
            rotate_left
            · intro w'
              go_simp
              with_reducible rfl
            rotate_left
            · simp only [Act.put, List.setIfInBounds_toArray, List.set_cons_zero, List.set_cons_succ, i64_w, i32_w]
              rfl
            refine done_ (by kernel_rfl) ?_
            try go_wp2
            go_ret
            exact ⟨_, er, Kd.rr HO176.out, bl HB, by repeat (first | (with_reducible first | exact HK.out | apply Kept.alloc | apply Kept.drewN | apply Kept.drew | refine Kept.setCell ?_ (.inr GW148.out) _) | exact HK.out)⟩
          · rw [if_neg c32] at H
            exact absurd H (by simp)
        · rw [if_neg c31] at H
          have c31b0 : (a1_0 == 4) = false := beq_eq_false_iff_ne.mpr c31
          have c31b1 : (a1_0 != 4) = true := bne_iff_ne.mpr c31
          by_cases c40 : a1_0 = 5
          · rw [if_pos c40] at H
            have c40b0 : (a1_0 == 5) = true := beq_iff_eq.mpr c40
            have c40b1 : (a1_0 != 5) = false := bne_eq_false_iff_eq.mpr c40
            clear c40
            by_cases c41 : l0.length < 140737488355328
            · rw [if_pos c41] at H
              have LMc41 := am c41
              clear c41
              obtain ⟨y177, hy177⟩ : ∃ y_ : List Int, y_ = (l0 ++ [6]) := ⟨_, rfl⟩
              replace H : ((code_putString.f y177 a1_3).bind fun t180 => (some t180)) = some r := by first | (rw [hy177]; with_reducible exact H) | (have H2_ := (Option.bind_some _ _).symm.trans H; rw [hy177]; with_reducible exact H2_) | (have H2_ := (Option.bind_some _ _).symm.trans H; with_reducible exact H2_) | with_reducible exact H | (rw [hy177]; exact H) | exact H
              have Ny177 := am hy177
              clear hy177
              replace H := Option.bind_eq_some_iff.mp H
              obtain ⟨t180, A420, H⟩ := H
              replace H : (some t180) = some r := H
              have A42 := am A420
              clear A420
              obtain rfl := Option.some.inj H
              go_enter Tryd.func68, Tryd.ntmps68
              try go_wp2_with (first | ((with_reducible refine gate_dst (N := 3) rfl ?_); refine box_event rfl (N := 3) rfl (cs := #[.int .i64 a1_0, .int .i64 a1_1, .float .f64 a1_2, .string a1_3]) (t := 50) gs ?_; intro gb148 hg w43 hbox hb; have n0_ := am (Kd.R_below (Kd.rr HO0.out) hb); have n1_ := am (Kept.below (S := (fun k_ => P0_ k_)) (by repeat (first | (with_reducible first | exact HK.out | apply Kept.alloc | apply Kept.drewN | apply Kept.drew) | exact HK.out)) hb); have n2_ := sb HB hb; have n3_ := am (hbox); have n4_ := am ((by rw [hg]; exact (by first | exact HK.out.1 | exact (show Kept w _ (fun k_ => P0_ k_) from by repeat (first | (with_reducible first | exact HK.out | apply Kept.alloc | apply Kept.drewN | apply Kept.drew) | exact HK.out)).1) : w.heap.size ≤ gb148)); have n5_ := am ((by rw [hg]; exact (below_size (bl HB)) : w0.heap.size ≤ gb148)); clear HO0; clear HK; clear HB; have HO0 := n0_; have HK := n1_; have HB := n2_; have BK148 := n3_; have GW148 := n4_; have GE148 := n5_; clear n0_ n1_ n2_ n3_ n4_ n5_; clear hb hbox hg; obtain ⟨Z44_0, Z44_1, Z44_2, Z44_3, Y44_0, Y44_1, Y44_2, Y44_3⟩ := bq4 BK148))
              have n0_ := am (Kd.R_drew HO0.out)
              have n1_ := am (blk_drew BK148.out)
              have n2_ := am (Kept.drew HK.out)
              have n3_ := am (below_drew1 HB.out)
              clear HO0
              clear BK148
              clear HK
              clear HB
              have HO0 := n0_
              have BK148 := n1_
              have HK := n2_
              have HB := n3_
              clear n0_ n1_ n2_ n3_
              refine start_ (n := 7) (S := fun w' => w'.cell? ⟨gb148, 0, none⟩ = some (.int .i64 a1_0) ∧ w'.cell? ⟨gb148, 1, none⟩ = some (.int .i64 a1_1) ∧ w'.cell? ⟨gb148, 2, none⟩ = some (.float .f64 a1_2) ∧ w'.cell? ⟨gb148, 3, none⟩ = some (.string a1_3)) (ds := []) (bb 0 7) (by kernel_rfl) rfl rfl ⟨(blk_cell BK148.out 0).trans rfl, (blk_cell BK148.out 1).trans rfl, (blk_cell BK148.out 2).trans rfl, (blk_cell BK148.out 3).trans rfl⟩ (fun hHeld => ?_)
              generalize w43.drew = w45 at HO0 BK148 HK HB hHeld ⊢
              refine pure_ (i := 0) (N := some 42) (v := ?_) (a' := ?_) (bb 1 7) rfl rfl (by kernel_rfl) (fun _ _ _ h => h) (Or.inl ⟨by rfl, ?_⟩) ?_ ?_
              rotate_left
              · intro w'
                go_simp
                with_reducible rfl
              rotate_left
              · simp only [Act.put, List.setIfInBounds_toArray, List.set_cons_zero, List.set_cons_succ, i64_w, i32_w]
                rfl
              refine pure_ (i := 3) (N := some 45) (v := ?_) (a' := ?_) (bs 7 9) rfl rfl (by kernel_rfl) (fun _ _ _ h => h) (Or.inl ⟨by rfl, ?_⟩) ?_ ?_
              rotate_left
              · intro w'
                go_simp
                with_reducible rfl
              rotate_left
              · simp only [Act.put, List.setIfInBounds_toArray, List.set_cons_zero, List.set_cons_succ, i64_w, i32_w]
                rfl
              refine take_ (i := 4) (N := some 46) (v := ?_) (a' := ?_) (bs 7 25) rfl rfl (by kernel_rfl) (fun _ _ _ h => h) (Or.inl ⟨by rfl, ?_⟩) hHeld ?_ ?_
              rotate_left
              · rintro w' ⟨s0, s1, s2, s3⟩
                go_simp
                with_reducible rfl
              rotate_left
              · simp only [Act.put, List.setIfInBounds_toArray, List.set_cons_zero, List.set_cons_succ, i64_w, i32_w]
                rfl
              refine one_ (i := 1) (N := some 43) (bs 7 27) rfl rfl (by kernel_rfl) (by decide) (fun K hK => ?_)
              refine value_ (w1 := ?_) (v := ?_) (by rfl) rfl ?_ ?_
              rotate_left 2
              · go_simp
                constructor
                · rfl
                · rfl
              refine hK.out _ _ ⟨(blk_cell (blk_alloc BK148.out _) 0).trans rfl, (blk_cell (blk_alloc BK148.out _) 1).trans rfl, (blk_cell (blk_alloc BK148.out _) 2).trans rfl, (blk_cell (blk_alloc BK148.out _) 3).trans rfl⟩ (fun hHeld => ?_)
              clear hK K
              refine norm_ (a' := ?_) ?_ ?_
              rotate_left
              · show Act.put _ (some 43) _ = _
                simp only [Act.put, List.setIfInBounds_toArray, List.set_cons_zero, List.set_cons_succ, i64_w, i32_w]
                rfl
              refine one_ (i := 2) (N := some 44) (bb 5 7) rfl rfl (by kernel_rfl) (by decide) (fun K hK => ?_)
              refine Kd.R_append_step (Kd.int .u8) (w0 := w0) w0.heap.size (by rfl) (.tmp 42) (.tmp 43) 80 5 (.int .u8 0) 1 rfl Tryd.underlying80 info5 rfl (by decide) (by omega) u9000_ l0 6 [.int .u8 6] (fun k_ => (P0_ k_ ∨ w.heap.size ≤ k_)) (fun _ => False) rfl rfl ?aP (fun _ hk => hk.elim) ?aF ?aO ?aB ?aS ?aL ?_
              (case aP => exact rfl)
              (case aB => exact (bl HB))
              (case aF => exact (fun k_ hk => (.inr (Nat.le_trans (by first | exact HK.out.1 | exact (show Kept w _ (fun k_ => P0_ k_) from by repeat (first | (with_reducible first | exact HK.out | apply Kept.alloc | apply Kept.drewN | apply Kept.drew | refine Kept.setCell ?_ (.inr GW148.out) _) | exact HK.out)).1) hk))))
              (case aO => exact (Kd.rr HO0.out))
              (case aS => exact (below_size (bl HB)))
              (case aL => have := LMc41.out; omega)
              intro v178 w46 ho hb hg hat
              rw [← Ny177.out] at ho
              have n0_ := am (blk_grown (g := gb148) (o := .cells #[.int .i64 a1_0, .int .i64 a1_1, .float .f64 a1_2, .string a1_3] 50 (0, 0)) (bk BK148) hg (Kd.R_ne HO0.out BK148.out (by decide)))
              have n1_ := am (hb)
              have n2_ := am (Kept.of_grown (S := (fun k_ => P0_ k_)) hg (by repeat (first | (with_reducible first | exact HK.out | apply Kept.alloc | apply Kept.drewN | apply Kept.drew | refine Kept.setCell ?_ (.inr GW148.out) _) | exact HK.out)) (fun k_ e_ => (HO0.out.1 k_ e_)))
              have n3_ := am (ho)
              clear BK148
              clear HB
              clear HK
              clear HO0
              have BK148 := n0_
              have HB := n1_
              have HK := n2_
              have HO179 := n3_
              clear n0_ n1_ n2_ n3_
              clear ho hb hg hat
              obtain ⟨Ao47, co47, eo47⟩ := Kd.R_slice HO179.out
              (first | subst eo47 | (injection eo47 with f1_ f2_ f3_; have f4_ := f1_.symm; have f5_ := f3_.symm; clear f1_ f2_ f3_; subst f4_; subst f5_))
              refine hK.out _ _ ⟨(blk_cell BK148.out 0).trans rfl, (blk_cell BK148.out 1).trans rfl, (blk_cell BK148.out 2).trans rfl, (blk_cell BK148.out 3).trans rfl⟩ (fun hHeld => ?_)
              clear hK K
              refine norm_ (a' := ?_) ?_ ?_
              rotate_left
              · show Act.put _ (some 44) _ = _
                simp only [Act.put, List.setIfInBounds_toArray, List.set_cons_zero, List.set_cons_succ, i64_w, i32_w]
                rfl
              refine one_ (i := 5) (N := some 47) (bb 6 7) rfl rfl (by kernel_rfl) (by decide) (fun K hK => ?_)
              refine goes_ Tryd.func103 (by kernel_rfl) rfl #[.slice Ao47 y177.length co47, .string a1_3] (by rfl) rfl rfl ar ?_
              with_reducible refine (code_putString.calls (fun k_ => some k_ = (.slice Ao47 y177.length co47 : Value).ownBlock) (.slice Ao47 y177.length co47) y177 a1_3 t180 w0 _ ?side1 ?side2 ?side3 A42.out).mono ?_
              (case side1 => repeat (first | (with_reducible first | exact HB.out | apply below_alloc | apply pw_below_drewN | apply below_drew1 | refine below_set ?_ GE148.out) | exact HB.out))
              (case side2 => exact Kd.R_tight rfl HO179.out)
              (case side3 => exact HG.out)
              rintro e w48 ⟨v181, rfl, ho0, hb, hkp⟩
              refine ⟨_, rfl, ?_⟩
              have n0_ := am (blk_kept (bk BK148) hkp (fun hs_ => (fun e_ => (Kd.R_ne HO179.out BK148.out (by decide)) e_) hs_))
              have n1_ := am (Kd.R_mono (ok' := fun k_ => (P0_ k_ ∨ w.heap.size ≤ k_)) ho0 (fun k_ hk_ => Or.elim hk_ (fun hs_ => (HO179.out.1 k_ (hs_).symm)) (fun hn_ => (.inr (Nat.le_trans (by first | exact HK.out.1 | exact (show Kept w _ (fun k_ => P0_ k_) from by repeat (first | (with_reducible first | exact HK.out | apply Kept.alloc | apply Kept.drewN | apply Kept.drew | refine Kept.setCell ?_ (.inr GW148.out) _) | exact HK.out)).1) hn_)))))
              have n2_ := am (Kept.then_ (S := (fun k_ => P0_ k_)) (by repeat (first | (with_reducible first | exact HK.out | apply Kept.alloc | apply Kept.drewN | apply Kept.drew | refine Kept.setCell ?_ (.inr GW148.out) _) | exact HK.out)) hkp (fun k_ hs_ => (fun e_ => (HO179.out.1 k_ e_.symm)) hs_))
              have n3_ := am (hb)
              clear BK148
              clear HK
              clear HB
              clear HO179
              have BK148 := n0_
              have HO182 := n1_
              have HK := n2_
              have HB := n3_
              clear n0_ n1_ n2_ n3_
              (try clear hb)
              (try clear hkp)
              (try clear ho0)
              refine hK.out _ _ ⟨(blk_cell BK148.out 0).trans rfl, (blk_cell BK148.out 1).trans rfl, (blk_cell BK148.out 2).trans rfl, (blk_cell BK148.out 3).trans rfl⟩ (fun hHeld => ?_)
              clear hK K
              refine norm_ (a' := ?_) ?_ ?_
              rotate_left
              · show Act.put _ (some 47) _ = _
                simp only [Act.put, List.setIfInBounds_toArray, List.set_cons_zero, List.set_cons_succ, i64_w, i32_w]
                rfl
              refine pure_ (i := 6) (N := some 4) (v := ?_) (a' := ?_) (bb 7 7) rfl rfl (by kernel_rfl) (fun _ _ _ h => h) (Or.inl ⟨by rfl, ?_⟩) ?_ ?_
              rotate_left
              · intro w'
                go_simp
                with_reducible rfl
              rotate_left
              · simp only [Act.put, List.setIfInBounds_toArray, List.set_cons_zero, List.set_cons_succ, i64_w, i32_w]
                rfl
              refine done_ (by kernel_rfl) ?_
              try go_wp2
              go_ret
              exact ⟨_, er, Kd.rr HO182.out, bl HB, by repeat (first | (with_reducible first | exact HK.out | apply Kept.alloc | apply Kept.drewN | apply Kept.drew | refine Kept.setCell ?_ (.inr GW148.out) _) | exact HK.out)⟩
            · rw [if_neg c41] at H
              exact absurd H (by simp)
          · rw [if_neg c40] at H
            have c40b0 : (a1_0 == 5) = false := beq_eq_false_iff_ne.mpr c40
            have c40b1 : (a1_0 != 5) = true := bne_iff_ne.mpr c40
            by_cases c49 : l0.length < 140737488355328
            · rw [if_pos c49] at H
              have LMc49 := am c49
              clear c49
              obtain ⟨y183, hy183⟩ : ∃ y_ : List Int, y_ = (l0 ++ [1]) := ⟨_, rfl⟩
              replace H : (some y183) = some r := by first | (rw [hy183]; with_reducible exact H) | (have H2_ := (Option.bind_some _ _).symm.trans H; rw [hy183]; with_reducible exact H2_) | (have H2_ := (Option.bind_some _ _).symm.trans H; with_reducible exact H2_) | with_reducible exact H | (rw [hy183]; exact H) | exact H
              have Ny183 := am hy183
              clear hy183
              obtain rfl := Option.some.inj H
              go_enter Tryd.func68, Tryd.ntmps68
              go_wp2_with (first | ((with_reducible refine gate_dst (N := 3) rfl ?_); refine box_event rfl (N := 3) rfl (cs := #[.int .i64 a1_0, .int .i64 a1_1, .float .f64 a1_2, .string a1_3]) (t := 50) gs ?_; intro gb148 hg w50 hbox hb; have n0_ := am (Kd.R_below (Kd.rr HO0.out) hb); have n1_ := am (Kept.below (S := (fun k_ => P0_ k_)) (by repeat (first | (with_reducible first | exact HK.out | apply Kept.alloc | apply Kept.drewN | apply Kept.drew) | exact HK.out)) hb); have n2_ := sb HB hb; have n3_ := am (hbox); have n4_ := am ((by rw [hg]; exact (by first | exact HK.out.1 | exact (show Kept w _ (fun k_ => P0_ k_) from by repeat (first | (with_reducible first | exact HK.out | apply Kept.alloc | apply Kept.drewN | apply Kept.drew) | exact HK.out)).1) : w.heap.size ≤ gb148)); have n5_ := am ((by rw [hg]; exact (below_size (bl HB)) : w0.heap.size ≤ gb148)); clear HO0; clear HK; clear HB; have HO0 := n0_; have HK := n1_; have HB := n2_; have BK148 := n3_; have GW148 := n4_; have GE148 := n5_; clear n0_ n1_ n2_ n3_ n4_ n5_; clear hb hbox hg; obtain ⟨Z51_0, Z51_1, Z51_2, Z51_3, Y51_0, Y51_1, Y51_2, Y51_3⟩ := bq4 BK148) | ((with_reducible refine gate_builtin (b := .append) (xs := #[.tmp 48, .tmp 49]) rfl ?_); at_builtin; refine Kd.R_append (Kd.int .u8) (w0 := w0) w0.heap.size rfl (.tmp 48) (.tmp 49) 80 5 (.int .u8 0) 1 rfl Tryd.underlying80 info5 rfl (by decide) (by omega) u9000_ l0 1 [.int .u8 1] (fun k_ => (P0_ k_ ∨ w.heap.size ≤ k_)) (fun _ => False) rfl rfl ?aP (fun _ hk => hk.elim) ?aF ?aO ?aB ?aS ?aL ?_; (case aP => exact rfl); (case aB => exact (bl HB)); (case aF => exact (fun k_ hk => (.inr (Nat.le_trans (by first | exact HK.out.1 | exact (show Kept w _ (fun k_ => P0_ k_) from by repeat (first | (with_reducible first | exact HK.out | apply Kept.alloc | apply Kept.drewN | apply Kept.drew | refine Kept.setCell ?_ (.inr GW148.out) _) | exact HK.out)).1) hk)))); (case aO => exact (Kd.rr HO0.out)); (case aS => exact (below_size (bl HB))); (case aL => have := LMc49.out; omega); intro v184 w52 ho hb hg hat; rw [← Ny183.out] at ho; have n0_ := am (blk_grown (g := gb148) (o := .cells #[.int .i64 a1_0, .int .i64 a1_1, .float .f64 a1_2, .string a1_3] 50 (0, 0)) (bk BK148) hg (Kd.R_ne HO0.out BK148.out (by decide))); have n1_ := am (hb); have n2_ := am (Kept.of_grown (S := (fun k_ => P0_ k_)) hg (by repeat (first | (with_reducible first | exact HK.out | apply Kept.alloc | apply Kept.drewN | apply Kept.drew | refine Kept.setCell ?_ (.inr GW148.out) _) | exact HK.out)) (fun k_ e_ => (HO0.out.1 k_ e_))); have n3_ := am (ho); clear BK148; clear HB; clear HK; clear HO0; have BK148 := n0_; have HB := n1_; have HK := n2_; have HO185 := n3_; clear n0_ n1_ n2_ n3_; clear ho hb hg hat))
              go_ret
              exact ⟨_, er, Kd.rr HO185.out, bl HB, by repeat (first | (with_reducible first | exact HK.out | apply Kept.alloc | apply Kept.drewN | apply Kept.drew | refine Kept.setCell ?_ (.inr GW148.out) _) | exact HK.out)⟩
            · rw [if_neg c49] at H
              exact absurd H (by simp)
mutual
def code_Encode.l0 : Nat → List (S50) → List (S50) → Int → Int → Option (ByteArray × Int)
  | 0, _, _, _, _ => none
  | k + 1, x0, x9, x10, x11 => if x11 < x10 then (if 0 ≤ x11 then (if x11 < (x9.length : Int) then ((value_Check.f k ((rd_T50 x9 x11).f0) ((rd_T50 x9 x11).f1) ((rd_T50 x9 x11).f2) ((rd_T50 x9 x11).f3)).bind fun t188 => (if t188 = 0 then (code_Encode.l0 k x0 x9 x10 (wrap64 (x11 + 1))) else (some ((⟨#[]⟩ : ByteArray), 10)))) else (none)) else (none)) else (code_Encode.l1 k ([] : List Int) x0 (x0.length : Int) 0)
def code_Encode.l1 : Nat → List Int → List (S50) → Int → Int → Option (ByteArray × Int)
  | 0, _, _, _, _ => none
  | k + 1, x6, x19, x20, x21 => if x21 < x20 then (if 0 ≤ x21 then (if x21 < (x19.length : Int) then ((code_put.f k x6 ((rd_T50 x19 x21).f0) ((rd_T50 x19 x21).f1) ((rd_T50 x19 x21).f2) ((rd_T50 x19 x21).f3)).bind fun t191 => (if (t191.length : Int) > 1024 then (some ((⟨#[]⟩ : ByteArray), 3)) else (code_Encode.l1 k t191 x19 x20 (wrap64 (x21 + 1))))) else (none)) else (none)) else (some (strOfNums x6, 0))
end
def code_Encode.f (k : Nat) (l0 : List (S50)) : Option (ByteArray × Int) := code_Encode.l0 k l0 l0 (l0.length : Int) 0
set_option maxHeartbeats 8000000 in
set_option maxRecDepth 100000 in
theorem code_Encode.calls (k : Nat) (A0 : Option Addr) (c0 : Nat) (l0 : List (S50)) (r1 : ByteArray) (r2 : Int) (w : World) (hr0 : Kd.C k50 w A0 l0.length l0) (hc0 : l0.length ≤ c0) (hG : Glob w) (h : code_Encode.f k l0 = some (r1, r2)) :
    Calls Tryd.prog 21 #[.slice A0 l0.length c0] w fun e w' => e = .returned (.tuple #[.string r1, .int .i64 r2]) ∧ Below w.heap.size w w' := by
  have hu50 := Tryd.underlying50
  have HR0 := am hr0
  have HC0 := am hc0
  clear hr0 hc0
  have HG := am hG
  clear hG
  have HB := am (Below.refl w.heap.size w)
  have H : (code_Encode.l0 k l0 l0 (l0.length : Int) 0) = some (r1, r2) := h
  clear h
  have H' := am H
  clear H
  go_enter Tryd.func21, Tryd.ntmps21
  go_wp2
  go_loopg [11] k (fun kq v11 w' => ∃ (x11_1 : Int), v11 = .int .i64 x11_1 ∧ Aside0 (code_Encode.l0 kq l0 l0 (l0.length : Int) x11_1 = some (r1, r2)) ∧ Aside0 (kq ≤ k) ∧ Aside0 (Below w.heap.size w w'))
  case atStart => exact ⟨(0), eb, H', ⟨Nat.le_refl _⟩, ⟨bl HB⟩⟩
  case round =>
    clear H'
    obtain ⟨x11_1, rfl, HA, HK1, HB⟩ := hrel
    cases gk with
    | zero => exact absurd HA.out (by simp [code_Encode.l0])
    | succ k1 =>
      have H := HA.out
      clear HA
      simp only [code_Encode.l0] at H
      by_cases c2 : x11_1 < (l0.length : Int)
      · rw [if_pos c2] at H
        have c2b0 : decide (x11_1 < (l0.length : Int)) = true := decide_eq_true c2
        clear c2
        by_cases c3 : 0 ≤ x11_1
        · rw [if_pos c3] at H
          have c3b0 : decide (0 ≤ x11_1) = true := decide_eq_true c3
          clear c3
          by_cases c4 : x11_1 < (l0.length : Int)
          · rw [if_pos c4] at H
            have c4b0 : decide (x11_1 < (l0.length : Int)) = true := decide_eq_true c4
            clear c4
            replace H := Option.bind_eq_some_iff.mp H
            obtain ⟨t188, A50, H⟩ := H
            replace H : (if t188 = 0 then (code_Encode.l0 k1 l0 l0 (l0.length : Int) (wrap64 (x11_1 + 1))) else (some ((⟨#[]⟩ : ByteArray), 10))) = some (r1, r2) := H
            have A5 := am A50
            clear A50
            by_cases c6 : t188 = 0
            · rw [if_pos c6] at H
              have c6b0 : (t188 == 0) = true := beq_iff_eq.mpr c6
              have c6b1 : (t188 != 0) = false := bne_eq_false_iff_eq.mpr c6
              clear c6
              have H' := am H
              clear H
              have p186 : 0 ≤ (x11_1 : Int) := oda
              have q186 : x11_1 < (l0.length : Int) := oda
              obtain ⟨ad186, e186, hx186_0, hx186_1, hx186_2, hx186_3⟩ := at_T50 HR0.out x11_1 p186 q186
              cases e186
              replace hx186_0 := hc HB hx186_0
              replace hx186_1 := hc HB hx186_1
              replace hx186_2 := hc HB hx186_2
              replace hx186_3 := hc HB hx186_3
              replace p186 := eq_true p186
              replace q186 := eq_true q186
              go_wp2_with (first | ((with_reducible refine gate_dst (N := 5) rfl ?_); refine box_event rfl (N := 5) rfl (cs := #[.int .i64 0, .int .i64 0, .float .f64 0, .string (⟨#[]⟩ : ByteArray)]) (t := 50) gs ?_; intro gb187 hg w7 hbox hb; have BK187 := am (hbox); have GW187 := gw hg HB; have GE187 := gw hg HB; replace HB := sb HB hb; clear hb hbox hg; obtain ⟨Z8_0, Z8_1, Z8_2, Z8_3, Y8_0, Y8_1, Y8_2, Y8_3⟩ := bq4 BK187) | ((with_reducible refine gate_callee (f := 67) rfl ?_); refine goesL_ (some 16) rfl rfl Tryd.func67 (by kernel_rfl) rfl #[.agg #[.int .i64 ((rd_T50 l0 x11_1).f0), .int .i64 ((rd_T50 l0 x11_1).f1), .float .f64 ((rd_T50 l0 x11_1).f2), .string ((rd_T50 l0 x11_1).f3)]] rfl ar ?_; (with_reducible refine (value_Check.calls k1 ((rd_T50 l0 x11_1).f0) ((rd_T50 l0 x11_1).f1) ((rd_T50 l0 x11_1).f2) ((rd_T50 l0 x11_1).f3) t188 _ (Glob.below HG.out (bl HB)) A5.out).mono ?_); rintro e w9 ⟨rfl, hb⟩; refine ⟨_, rfl, ?_⟩; replace BK187 := am (blk_below (g := gb187) (o := .cells #[.int .i64 ((rd_T50 l0 x11_1).f0), .int .i64 ((rd_T50 l0 x11_1).f1), .float .f64 ((rd_T50 l0 x11_1).f2), .string ((rd_T50 l0 x11_1).f3)] 50 (0, 0)) (by refine rp ?_; refine blk_put (cs := #[.int .i64 ((rd_T50 l0 x11_1).f0), .int .i64 ((rd_T50 l0 x11_1).f1), .float .f64 ((rd_T50 l0 x11_1).f2), .string (⟨#[]⟩ : ByteArray)]) ?_ 3 _ rfl; refine rp ?_; refine blk_put (cs := #[.int .i64 ((rd_T50 l0 x11_1).f0), .int .i64 ((rd_T50 l0 x11_1).f1), .float .f64 0, .string (⟨#[]⟩ : ByteArray)]) ?_ 2 _ rfl; refine rp ?_; refine blk_put (cs := #[.int .i64 ((rd_T50 l0 x11_1).f0), .int .i64 0, .float .f64 0, .string (⟨#[]⟩ : ByteArray)]) ?_ 1 _ rfl; refine rp ?_; refine blk_put (cs := #[.int .i64 0, .int .i64 0, .float .f64 0, .string (⟨#[]⟩ : ByteArray)]) ?_ 0 _ rfl; exact bk BK187) hb); replace HB := sb HB hb; (try clear hb); (try clear hb2 hk hi)))
              go_roundg k1
              case measure => have := HK1.out; omega
              case rel => exact ⟨(wrap64 (x11_1 + 1)), eb, H', ⟨by have := HK1.out; omega⟩, ⟨bl HB⟩⟩
            · rw [if_neg c6] at H
              have c6b0 : (t188 == 0) = false := beq_eq_false_iff_ne.mpr c6
              have c6b1 : (t188 != 0) = true := bne_iff_ne.mpr c6
              simp only [Option.some.injEq, Prod.mk.injEq] at H
              obtain ⟨rfl, rfl⟩ := H
              have p186 : 0 ≤ (x11_1 : Int) := oda
              have q186 : x11_1 < (l0.length : Int) := oda
              obtain ⟨ad186, e186, hx186_0, hx186_1, hx186_2, hx186_3⟩ := at_T50 HR0.out x11_1 p186 q186
              cases e186
              replace hx186_0 := hc HB hx186_0
              replace hx186_1 := hc HB hx186_1
              replace hx186_2 := hc HB hx186_2
              replace hx186_3 := hc HB hx186_3
              replace p186 := eq_true p186
              replace q186 := eq_true q186
              go_wp2_with (first | ((with_reducible refine gate_dst (N := 5) rfl ?_); refine box_event rfl (N := 5) rfl (cs := #[.int .i64 0, .int .i64 0, .float .f64 0, .string (⟨#[]⟩ : ByteArray)]) (t := 50) gs ?_; intro gb187 hg w10 hbox hb; have BK187 := am (hbox); have GW187 := gw hg HB; have GE187 := gw hg HB; replace HB := sb HB hb; clear hb hbox hg; obtain ⟨Z11_0, Z11_1, Z11_2, Z11_3, Y11_0, Y11_1, Y11_2, Y11_3⟩ := bq4 BK187) | ((with_reducible refine gate_callee (f := 67) rfl ?_); refine goesL_ (some 16) rfl rfl Tryd.func67 (by kernel_rfl) rfl #[.agg #[.int .i64 ((rd_T50 l0 x11_1).f0), .int .i64 ((rd_T50 l0 x11_1).f1), .float .f64 ((rd_T50 l0 x11_1).f2), .string ((rd_T50 l0 x11_1).f3)]] rfl ar ?_; (with_reducible refine (value_Check.calls k1 ((rd_T50 l0 x11_1).f0) ((rd_T50 l0 x11_1).f1) ((rd_T50 l0 x11_1).f2) ((rd_T50 l0 x11_1).f3) t188 _ (Glob.below HG.out (bl HB)) A5.out).mono ?_); rintro e w12 ⟨rfl, hb⟩; refine ⟨_, rfl, ?_⟩; replace BK187 := am (blk_below (g := gb187) (o := .cells #[.int .i64 ((rd_T50 l0 x11_1).f0), .int .i64 ((rd_T50 l0 x11_1).f1), .float .f64 ((rd_T50 l0 x11_1).f2), .string ((rd_T50 l0 x11_1).f3)] 50 (0, 0)) (by refine rp ?_; refine blk_put (cs := #[.int .i64 ((rd_T50 l0 x11_1).f0), .int .i64 ((rd_T50 l0 x11_1).f1), .float .f64 ((rd_T50 l0 x11_1).f2), .string (⟨#[]⟩ : ByteArray)]) ?_ 3 _ rfl; refine rp ?_; refine blk_put (cs := #[.int .i64 ((rd_T50 l0 x11_1).f0), .int .i64 ((rd_T50 l0 x11_1).f1), .float .f64 0, .string (⟨#[]⟩ : ByteArray)]) ?_ 2 _ rfl; refine rp ?_; refine blk_put (cs := #[.int .i64 ((rd_T50 l0 x11_1).f0), .int .i64 0, .float .f64 0, .string (⟨#[]⟩ : ByteArray)]) ?_ 1 _ rfl; refine rp ?_; refine blk_put (cs := #[.int .i64 0, .int .i64 0, .float .f64 0, .string (⟨#[]⟩ : ByteArray)]) ?_ 0 _ rfl; exact bk BK187) hb); replace HB := sb HB hb; (try clear hb); (try clear hb2 hk hi)))
              go_ret2
              exact ⟨er, bl HB⟩
          · rw [if_neg c4] at H
            exact absurd H (by simp)
        · rw [if_neg c3] at H
          exact absurd H (by simp)
      · rw [if_neg c2] at H
        have c2b0 : decide (x11_1 < (l0.length : Int)) = false := decide_eq_false c2
        clear c2
        have H' := am H
        clear H
        go_wp2
        go_loopg [6, 21] k1 (fun kq v6 v21 w' => ∃ (x6_2 : List Int) (x21_2 : Int), v21 = .int .i64 x21_2 ∧ Aside0 (code_Encode.l1 kq x6_2 l0 (l0.length : Int) x21_2 = some (r1, r2)) ∧ Aside0 (kq ≤ k1) ∧ Aside0 (Kd.R (Kd.int .u8) 5 w' w.heap.size (fun _ => True) v6 x6_2) ∧ Aside0 (Below w.heap.size w w'))
        case atStart => exact ⟨(([] : List Int)), (0), eb, H', ⟨Nat.le_refl _⟩, ⟨by first | exact Kd.R_nil _ _ _ _ _ | exact Kd.N_nil _ _ _ _ _ | exact Kd.V_nil _ _ _ _ _ | exact Kd.Q_nil _ _ _ _ _ | exact Kd.S_nil _ _ _ _ _⟩, ⟨bl HB⟩⟩
        case round =>
          clear H'
          try clear p1
          try clear q1
          try clear hx1
          try clear c2
          try clear c2b0
          try clear p2
          try clear c3
          try clear c3b0
          try clear c4
          try clear c4b0
          try clear c6
          try clear c6b0
          try clear c6b1
          try clear p6
          try clear Z11_0
          try clear Z11_1
          try clear Z11_2
          try clear Z11_3
          try clear Z8_0
          try clear Z8_1
          try clear Z8_2
          try clear Z8_3
          try clear Y11_0
          try clear Y11_1
          try clear Y11_2
          try clear Y11_3
          try clear Y8_0
          try clear Y8_1
          try clear Y8_2
          try clear Y8_3
          try clear hx186_0
          try clear hx186_1
          try clear hx186_2
          try clear hx186_3
          try clear p186
          try clear q186
          obtain ⟨x6_2, x21_2, rfl, HA, HK2, HO_6, HB⟩ := hrel
          cases gk with
          | zero => exact absurd HA.out (by simp [code_Encode.l1])
          | succ k2 =>
            have H := HA.out
            clear HA
            simp only [code_Encode.l1] at H
            by_cases c13 : x21_2 < (l0.length : Int)
            · rw [if_pos c13] at H
              have c13b0 : decide (x21_2 < (l0.length : Int)) = true := decide_eq_true c13
              clear c13
              by_cases c14 : 0 ≤ x21_2
              · rw [if_pos c14] at H
                have c14b0 : decide (0 ≤ x21_2) = true := decide_eq_true c14
                clear c14
                by_cases c15 : x21_2 < (l0.length : Int)
                · rw [if_pos c15] at H
                  have c15b0 : decide (x21_2 < (l0.length : Int)) = true := decide_eq_true c15
                  clear c15
                  replace H := Option.bind_eq_some_iff.mp H
                  obtain ⟨t191, A160, H⟩ := H
                  replace H : (if (t191.length : Int) > 1024 then (some ((⟨#[]⟩ : ByteArray), 3)) else (code_Encode.l1 k2 t191 l0 (l0.length : Int) (wrap64 (x21_2 + 1)))) = some (r1, r2) := H
                  have A16 := am A160
                  clear A160
                  by_cases c17 : (t191.length : Int) > 1024
                  · rw [if_pos c17] at H
                    have c17b0 : decide (1024 < (t191.length : Int)) = true := decide_eq_true c17
                    have c17b1 : decide (1024 < t191.length) = true := decide_eq_true (by omega)
                    clear c17
                    simp only [Option.some.injEq, Prod.mk.injEq] at H
                    obtain ⟨rfl, rfl⟩ := H
                    have p189 : 0 ≤ (x21_2 : Int) := oda
                    have q189 : x21_2 < (l0.length : Int) := oda
                    obtain ⟨ad189, e189, hx189_0, hx189_1, hx189_2, hx189_3⟩ := at_T50 HR0.out x21_2 p189 q189
                    cases e189
                    replace hx189_0 := hc HB hx189_0
                    replace hx189_1 := hc HB hx189_1
                    replace hx189_2 := hc HB hx189_2
                    replace hx189_3 := hc HB hx189_3
                    replace p189 := eq_true p189
                    replace q189 := eq_true q189
                    go_wp2_with (first | ((with_reducible refine gate_dst (N := 8) rfl ?_); refine box_event rfl (N := 8) rfl (cs := #[.int .i64 0, .int .i64 0, .float .f64 0, .string (⟨#[]⟩ : ByteArray)]) (t := 50) gs ?_; intro gb190 hg w18 hbox hb; have n0_ := am (Kd.R_below (Kd.rr HO_6.out) hb); have n1_ := sb HB hb; have n2_ := am (hbox); have n3_ := gw hg HB; have n4_ := gw hg HB; clear HO_6; clear HB; have HO_6 := n0_; have HB := n1_; have BK190 := n2_; have GW190 := n3_; have GE190 := n4_; clear n0_ n1_ n2_ n3_ n4_; clear hb hbox hg; obtain ⟨Z19_0, Z19_1, Z19_2, Z19_3, Y19_0, Y19_1, Y19_2, Y19_3⟩ := bq4 BK190) | ((with_reducible refine gate_store (t := 50) (p := 8) rfl ?_); refine store_event (t := 50) (p := 8) (v := ?vo_w20) (w1 := ((((w18.setCell ⟨gb190, 0, none⟩ (.int .i64 ((rd_T50 l0 x21_2).f0))).setCell ⟨gb190, 1, none⟩ (.int .i64 ((rd_T50 l0 x21_2).f1))).setCell ⟨gb190, 2, none⟩ (.float .f64 ((rd_T50 l0 x21_2).f2))).setCell ⟨gb190, 3, none⟩ (.string ((rd_T50 l0 x21_2).f3)))) ?hg ?ho ?hn ?hr ?_; (case ho => rfl); (case hg => rfl); (case hn => rfl); (case hr => first | (go_simp; done) | (go_simp; rfl)); intro w20 hw; have n0_ : Aside0 (Kd.R (Kd.int .u8) 5 w20 w.heap.size (fun _ => True) u6 x6_2) := ⟨(by rw [hw]; exact (by (with_reducible repeat (first | apply Kd.R_alloc | apply Kd.R_drewN | apply Kd.R_drew)); exact Kd.R_mono (Kd.R_far (p := ⟨gb190, 3, none⟩) (Kd.R_far (p := ⟨gb190, 2, none⟩) (Kd.R_far (p := ⟨gb190, 1, none⟩) (Kd.R_far (p := ⟨gb190, 0, none⟩) (Kd.R_types HO_6.out BK190.out (by decide)) (fun _ hk => hk.2) (.int .i64 ((rd_T50 l0 x21_2).f0))) (fun _ hk => hk.2) (.int .i64 ((rd_T50 l0 x21_2).f1))) (fun _ hk => hk.2) (.float .f64 ((rd_T50 l0 x21_2).f2))) (fun _ hk => hk.2) (.string ((rd_T50 l0 x21_2).f3))) (fun _ hk => trivial)))⟩; have n1_ : Aside0 (w20.heap[gb190]? = some (.cells #[.int .i64 ((rd_T50 l0 x21_2).f0), .int .i64 ((rd_T50 l0 x21_2).f1), .float .f64 ((rd_T50 l0 x21_2).f2), .string ((rd_T50 l0 x21_2).f3)] 50 (0, 0))) := ⟨(by rw [hw]; exact (by refine rp ?_; refine blk_put (cs := #[.int .i64 ((rd_T50 l0 x21_2).f0), .int .i64 ((rd_T50 l0 x21_2).f1), .float .f64 ((rd_T50 l0 x21_2).f2), .string (⟨#[]⟩ : ByteArray)]) ?_ 3 _ rfl; refine rp ?_; refine blk_put (cs := #[.int .i64 ((rd_T50 l0 x21_2).f0), .int .i64 ((rd_T50 l0 x21_2).f1), .float .f64 0, .string (⟨#[]⟩ : ByteArray)]) ?_ 2 _ rfl; refine rp ?_; refine blk_put (cs := #[.int .i64 ((rd_T50 l0 x21_2).f0), .int .i64 0, .float .f64 0, .string (⟨#[]⟩ : ByteArray)]) ?_ 1 _ rfl; refine rp ?_; refine blk_put (cs := #[.int .i64 0, .int .i64 0, .float .f64 0, .string (⟨#[]⟩ : ByteArray)]) ?_ 0 _ rfl; exact bk BK190))⟩; have n2_ : Aside0 (Below w.heap.size w w20) := ⟨(by rw [hw]; exact (bl HB))⟩; clear hw; clear HO_6; clear BK190; clear HB; have HO_6 := n0_; have BK190 := n1_; have HB := n2_; clear n0_ n1_ n2_; obtain ⟨Z21_0, Z21_1, Z21_2, Z21_3, Y21_0, Y21_1, Y21_2, Y21_3⟩ := bq4 BK190; obtain ⟨Ao22, co22, eo22⟩ := Kd.R_slice HO_6.out; subst eo22) | ((with_reducible refine gate_callee (f := 68) rfl ?_); refine goesL_ (some 27) rfl rfl Tryd.func68 (by kernel_rfl) rfl #[.slice Ao22 x6_2.length co22, .agg #[.int .i64 ((rd_T50 l0 x21_2).f0), .int .i64 ((rd_T50 l0 x21_2).f1), .float .f64 ((rd_T50 l0 x21_2).f2), .string ((rd_T50 l0 x21_2).f3)]] rfl ar ?_; (with_reducible refine (code_put.calls k2 (fun k_ => some k_ = (.slice Ao22 x6_2.length co22 : Value).ownBlock) (.slice Ao22 x6_2.length co22) x6_2 ((rd_T50 l0 x21_2).f0) ((rd_T50 l0 x21_2).f1) ((rd_T50 l0 x21_2).f2) ((rd_T50 l0 x21_2).f3) t191 w _ ?side1 ?side2 HG.out A16.out).mono ?_); (case side1 => repeat (first | (with_reducible first | exact HB.out | apply below_alloc | apply pw_below_drewN | apply below_drew1 | refine below_set ?_ GE190.out) | exact HB.out)); (case side2 => exact Kd.R_tight rfl HO_6.out); rintro e w23 ⟨v192, rfl, ho0, hb, hkp⟩; refine ⟨_, rfl, ?_⟩; have n0_ := am (blk_kept (bk BK190) hkp (fun hs_ => (fun e_ => (Kd.R_ne HO_6.out BK190.out (by decide)) e_) hs_)); have n1_ := am (Kd.R_mono (ok' := fun k_ => True) ho0 (fun k_ hk_ => trivial)); have n2_ := am (hb); clear BK190; clear HB; clear HO_6; have BK190 := n0_; have HO193 := n1_; have HB := n2_; clear n0_ n1_ n2_; (try clear hb); (try clear hkp); (try clear ho0); obtain ⟨Ao24, co24, eo24⟩ := Kd.R_slice HO193.out; subst eo24))
                    go_ret2
                    exact ⟨er, bl HB⟩
                  · rw [if_neg c17] at H
                    have c17b0 : decide (1024 < (t191.length : Int)) = false := decide_eq_false c17
                    have c17b1 : decide (1024 < t191.length) = false := decide_eq_false (by omega)
                    clear c17
                    have H' := am H
                    clear H
                    have p189 : 0 ≤ (x21_2 : Int) := oda
                    have q189 : x21_2 < (l0.length : Int) := oda
                    obtain ⟨ad189, e189, hx189_0, hx189_1, hx189_2, hx189_3⟩ := at_T50 HR0.out x21_2 p189 q189
                    cases e189
                    replace hx189_0 := hc HB hx189_0
                    replace hx189_1 := hc HB hx189_1
                    replace hx189_2 := hc HB hx189_2
                    replace hx189_3 := hc HB hx189_3
                    replace p189 := eq_true p189
                    replace q189 := eq_true q189
                    go_wp2_with (first | ((with_reducible refine gate_dst (N := 8) rfl ?_); refine box_event rfl (N := 8) rfl (cs := #[.int .i64 0, .int .i64 0, .float .f64 0, .string (⟨#[]⟩ : ByteArray)]) (t := 50) gs ?_; intro gb190 hg w25 hbox hb; have n0_ := am (Kd.R_below (Kd.rr HO_6.out) hb); have n1_ := sb HB hb; have n2_ := am (hbox); have n3_ := gw hg HB; have n4_ := gw hg HB; clear HO_6; clear HB; have HO_6 := n0_; have HB := n1_; have BK190 := n2_; have GW190 := n3_; have GE190 := n4_; clear n0_ n1_ n2_ n3_ n4_; clear hb hbox hg; obtain ⟨Z26_0, Z26_1, Z26_2, Z26_3, Y26_0, Y26_1, Y26_2, Y26_3⟩ := bq4 BK190) | ((with_reducible refine gate_store (t := 50) (p := 8) rfl ?_); refine store_event (t := 50) (p := 8) (v := ?vo_w27) (w1 := ((((w25.setCell ⟨gb190, 0, none⟩ (.int .i64 ((rd_T50 l0 x21_2).f0))).setCell ⟨gb190, 1, none⟩ (.int .i64 ((rd_T50 l0 x21_2).f1))).setCell ⟨gb190, 2, none⟩ (.float .f64 ((rd_T50 l0 x21_2).f2))).setCell ⟨gb190, 3, none⟩ (.string ((rd_T50 l0 x21_2).f3)))) ?hg ?ho ?hn ?hr ?_; (case ho => rfl); (case hg => rfl); (case hn => rfl); (case hr => first | (go_simp; done) | (go_simp; rfl)); intro w27 hw; have n0_ : Aside0 (Kd.R (Kd.int .u8) 5 w27 w.heap.size (fun _ => True) u6 x6_2) := ⟨(by rw [hw]; exact (by (with_reducible repeat (first | apply Kd.R_alloc | apply Kd.R_drewN | apply Kd.R_drew)); exact Kd.R_mono (Kd.R_far (p := ⟨gb190, 3, none⟩) (Kd.R_far (p := ⟨gb190, 2, none⟩) (Kd.R_far (p := ⟨gb190, 1, none⟩) (Kd.R_far (p := ⟨gb190, 0, none⟩) (Kd.R_types HO_6.out BK190.out (by decide)) (fun _ hk => hk.2) (.int .i64 ((rd_T50 l0 x21_2).f0))) (fun _ hk => hk.2) (.int .i64 ((rd_T50 l0 x21_2).f1))) (fun _ hk => hk.2) (.float .f64 ((rd_T50 l0 x21_2).f2))) (fun _ hk => hk.2) (.string ((rd_T50 l0 x21_2).f3))) (fun _ hk => trivial)))⟩; have n1_ : Aside0 (w27.heap[gb190]? = some (.cells #[.int .i64 ((rd_T50 l0 x21_2).f0), .int .i64 ((rd_T50 l0 x21_2).f1), .float .f64 ((rd_T50 l0 x21_2).f2), .string ((rd_T50 l0 x21_2).f3)] 50 (0, 0))) := ⟨(by rw [hw]; exact (by refine rp ?_; refine blk_put (cs := #[.int .i64 ((rd_T50 l0 x21_2).f0), .int .i64 ((rd_T50 l0 x21_2).f1), .float .f64 ((rd_T50 l0 x21_2).f2), .string (⟨#[]⟩ : ByteArray)]) ?_ 3 _ rfl; refine rp ?_; refine blk_put (cs := #[.int .i64 ((rd_T50 l0 x21_2).f0), .int .i64 ((rd_T50 l0 x21_2).f1), .float .f64 0, .string (⟨#[]⟩ : ByteArray)]) ?_ 2 _ rfl; refine rp ?_; refine blk_put (cs := #[.int .i64 ((rd_T50 l0 x21_2).f0), .int .i64 0, .float .f64 0, .string (⟨#[]⟩ : ByteArray)]) ?_ 1 _ rfl; refine rp ?_; refine blk_put (cs := #[.int .i64 0, .int .i64 0, .float .f64 0, .string (⟨#[]⟩ : ByteArray)]) ?_ 0 _ rfl; exact bk BK190))⟩; have n2_ : Aside0 (Below w.heap.size w w27) := ⟨(by rw [hw]; exact (bl HB))⟩; clear hw; clear HO_6; clear BK190; clear HB; have HO_6 := n0_; have BK190 := n1_; have HB := n2_; clear n0_ n1_ n2_; obtain ⟨Z28_0, Z28_1, Z28_2, Z28_3, Y28_0, Y28_1, Y28_2, Y28_3⟩ := bq4 BK190; obtain ⟨Ao29, co29, eo29⟩ := Kd.R_slice HO_6.out; subst eo29) | ((with_reducible refine gate_callee (f := 68) rfl ?_); refine goesL_ (some 27) rfl rfl Tryd.func68 (by kernel_rfl) rfl #[.slice Ao29 x6_2.length co29, .agg #[.int .i64 ((rd_T50 l0 x21_2).f0), .int .i64 ((rd_T50 l0 x21_2).f1), .float .f64 ((rd_T50 l0 x21_2).f2), .string ((rd_T50 l0 x21_2).f3)]] rfl ar ?_; (with_reducible refine (code_put.calls k2 (fun k_ => some k_ = (.slice Ao29 x6_2.length co29 : Value).ownBlock) (.slice Ao29 x6_2.length co29) x6_2 ((rd_T50 l0 x21_2).f0) ((rd_T50 l0 x21_2).f1) ((rd_T50 l0 x21_2).f2) ((rd_T50 l0 x21_2).f3) t191 w _ ?side1 ?side2 HG.out A16.out).mono ?_); (case side1 => repeat (first | (with_reducible first | exact HB.out | apply below_alloc | apply pw_below_drewN | apply below_drew1 | refine below_set ?_ GE190.out) | exact HB.out)); (case side2 => exact Kd.R_tight rfl HO_6.out); rintro e w30 ⟨v192, rfl, ho0, hb, hkp⟩; refine ⟨_, rfl, ?_⟩; have n0_ := am (blk_kept (bk BK190) hkp (fun hs_ => (fun e_ => (Kd.R_ne HO_6.out BK190.out (by decide)) e_) hs_)); have n1_ := am (Kd.R_mono (ok' := fun k_ => True) ho0 (fun k_ hk_ => trivial)); have n2_ := am (hb); clear BK190; clear HB; clear HO_6; have BK190 := n0_; have HO193 := n1_; have HB := n2_; clear n0_ n1_ n2_; (try clear hb); (try clear hkp); (try clear ho0); obtain ⟨Ao31, co31, eo31⟩ := Kd.R_slice HO193.out; subst eo31))
                    go_roundg k2
                    case measure => have := HK1.out; have := HK2.out; omega
                    case rel => exact ⟨(t191), (wrap64 (x21_2 + 1)), eb, H', ⟨by have := HK1.out; have := HK2.out; omega⟩, ⟨Kd.rr HO193.out⟩, ⟨bl HB⟩⟩
                · rw [if_neg c15] at H
                  exact absurd H (by simp)
              · rw [if_neg c14] at H
                exact absurd H (by simp)
            · rw [if_neg c13] at H
              have c13b0 : decide (x21_2 < (l0.length : Int)) = false := decide_eq_false c13
              clear c13
              simp only [Option.some.injEq, Prod.mk.injEq] at H
              obtain ⟨rfl, rfl⟩ := H
              have hcv32 := own_string (P := Tryd.prog) Tryd.underlying80 Tryd.underlying5 Tryd.underlying9 (Kd.own_of_R HO_6.out)
              go_wp2
              go_ret2
              exact ⟨er, bl HB⟩
mutual
def vellumref01_Check.j0 : Nat → Bool → Int → Int → Nat → ByteArray → Option (Int)
  | 0, _, _, _, _, _ => none
  | k + 1, x10, x195000, x195001, x195002, x195003 => if x10 = true then (some 10) else (if x195000 = 1 then (if x195001 = 0 then (vellumref01_Check.j1 k false x195000 x195001 x195002 x195003) else (if x195001 = 1 then (vellumref01_Check.j1 k false x195000 x195001 x195002 x195003) else (vellumref01_Check.j1 k true x195000 x195001 x195002 x195003))) else (if x195000 = 2 then (vellumref01_Check.j1 k false x195000 x195001 x195002 x195003) else (vellumref01_Check.j1 k (x195001 != 0) x195000 x195001 x195002 x195003)))
def vellumref01_Check.j1 : Nat → Bool → Int → Int → Nat → ByteArray → Option (Int)
  | 0, _, _, _, _, _ => none
  | k + 1, x38, x195000, x195001, x195002, x195003 => if x38 = true then (some 10) else (if x195000 = 3 then (vellumref01_Check.j2 k false x195000 x195001 x195002 x195003) else (vellumref01_Check.j2 k (((x195002 : Nat) : Int) != 0) x195000 x195001 x195002 x195003))
def vellumref01_Check.j2 : Nat → Bool → Int → Int → Nat → ByteArray → Option (Int)
  | 0, _, _, _, _, _ => none
  | k + 1, x47, x195000, x195001, x195002, x195003 => if x47 = true then (some 10) else (if x195000 = 4 then (vellumref01_Check.j3 k false x195000 x195001 x195002 x195003) else (if x195000 = 5 then (vellumref01_Check.j3 k false x195000 x195001 x195002 x195003) else (vellumref01_Check.j3 k (x195003.toList != ([] : List UInt8)) x195000 x195001 x195002 x195003)))
def vellumref01_Check.j3 : Nat → Bool → Int → Int → Nat → ByteArray → Option (Int)
  | 0, _, _, _, _, _ => none
  | k + 1, x60, x195000, x195001, x195002, x195003 => if x60 = true then (some 10) else (if x195000 = 4 then ((utf8_ValidString.f x195003).bind fun t195 => (vellumref01_Check.j4 k (!t195) x195000 x195001 x195002 x195003)) else (vellumref01_Check.j4 k false x195000 x195001 x195002 x195003))
def vellumref01_Check.j4 : Nat → Bool → Int → Int → Nat → ByteArray → Option (Int)
  | 0, _, _, _, _, _ => none
  | k + 1, x69, x195000, x195001, x195002, x195003 => if x69 = true then (some 10) else (if (x195003.size : Int) > 65536 then (some 3) else (some 0))
end
def vellumref01_Check.f (k : Nat) (a0_0 : Int) (a0_1 : Int) (a0_2 : Nat) (a0_3 : ByteArray) : Option (Int) := if a0_0 < 0 then (vellumref01_Check.j0 k true a0_0 a0_1 a0_2 a0_3) else (vellumref01_Check.j0 k (decide (a0_0 > 5)) a0_0 a0_1 a0_2 a0_3)
def vellumref02_size.l0 : Nat → Int → Int → Option (Int)
  | 0, _, _ => none
  | k + 1, x0, x3 => if x0 > 0 then (vellumref02_size.l0 k (x0 / 256) (wrap64 (x3 + 1))) else (some x3)
def vellumref02_size.f (k : Nat) (a0 : Int) : Option (Int) := vellumref02_size.l0 k a0 0
def vellumref02_big.l0 : Nat → Int → List Int → Int → Option (List Int)
  | 0, _, _, _ => none
  | k + 1, x0, x5, x6 => if x6 ≥ 0 then (if 0 ≤ (IntKind.u64.wrap (wrap64 (8 * x6))) then (if x5.length < 140737488355328 then (vellumref02_big.l0 k x0 (x5 ++ [(shr .u64 x0 (IntKind.u64.wrap (wrap64 (8 * x6)))) % 256]) (wrap64 (x6 - 1))) else (none)) else (none)) else (some x5)
def vellumref02_big.f (k : Nat) (a0 : Int) (a1 : Int) : Option (List Int) := vellumref02_big.l0 k a0 ([] : List Int) (wrap64 (a1 - 1))
def vellumref02_whole.f (k : Nat) (a0 : Int) : Option (List Int) := if a0 ≥ 0 then ((vellumref02_size.f k (IntKind.u64.wrap (a0))).bind fun t199 => (if ([] : List Int).length < 140737488355328 then ((some (([] : List Int) ++ [(wrap64 (128 + t199)) % 256] : List Int)).bind fun y200 => ((vellumref02_big.f k (IntKind.u64.wrap (a0)) t199).bind fun t203 => (if y200.length + t203.length < 140737488355328 then (some (y200 ++ t203)) else (none)))) else (none))) else ((vellumref02_size.f k (IntKind.u64.wrap (wrap64 (-(wrap64 (a0 + 1)))))).bind fun t209 => (if t209 = 0 then (if ([] : List Int).length < 140737488355328 then ((some (([] : List Int) ++ [127] : List Int)).bind fun y210 => ((vellumref02_big.f k (not64 (IntKind.u64.wrap (wrap64 (-(wrap64 (a0 + 1)))))) 1).bind fun t213 => (if y210.length + t213.length < 140737488355328 then (some (y210 ++ t213)) else (none)))) else (none)) else (if ([] : List Int).length < 140737488355328 then ((some (([] : List Int) ++ [(wrap64 (128 - t209)) % 256] : List Int)).bind fun y219 => ((vellumref02_big.f k (not64 (IntKind.u64.wrap (wrap64 (-(wrap64 (a0 + 1)))))) t209).bind fun t222 => (if y219.length + t222.length < 140737488355328 then (some (y219 ++ t222)) else (none)))) else (none))))
mutual
def vellumref02_real.j0 : Nat → Nat → Int → Option (List Int)
  | 0, _, _ => none
  | k + 1, x0, x3 => if ((feq x0 x0) = true) then (vellumref02_real.j1 k x3) else (vellumref02_real.j1 k 9221120237041090560)
def vellumref02_real.j1 : Nat → Int → Option (List Int)
  | 0, _ => none
  | k + 1, x3 => if (x3 / 9223372036854775808) = 0 then ((vellumref02_big.f k (Go.bits .xor .u64 x3 9223372036854775808) 8).bind fun t228 => (some t228)) else ((vellumref02_big.f k (not64 x3) 8).bind fun t231 => (some t231))
end
def vellumref02_real.f (k : Nat) (a0 : Nat) : Option (List Int) := if (feq a0 0) = true then (vellumref02_real.j0 k a0 0) else (vellumref02_real.j0 k a0 ((a0 : Nat) : Int))
def vellumref02_ended.l0 : Nat → ByteArray → List Int → Int → Option (List Int)
  | 0, _, _, _ => none
  | k + 1, x0, x3, x4 => if x4 < (x0.size : Int) then (if 0 ≤ x4 then (if x3.length < 140737488355328 then ((some (x3 ++ [bt x0 x4] : List Int)).bind fun y234 => (if (bt x0 x4) = 0 then (if y234.length < 140737488355328 then (vellumref02_ended.l0 k x0 (y234 ++ [255]) (wrap64 (x4 + 1))) else (none)) else (vellumref02_ended.l0 k x0 y234 (wrap64 (x4 + 1))))) else (none)) else (none)) else (if x3.length < 140737488355328 then (some (x3 ++ [0])) else (none))
def vellumref02_ended.f (k : Nat) (a0 : ByteArray) : Option (List Int) := vellumref02_ended.l0 k a0 ([] : List Int) 0
def vellumref02_code.f (k : Nat) (a0_0 : Int) (a0_1 : Int) (a0_2 : Nat) (a0_3 : ByteArray) : Option (List Int) := (some (([(wrap64 (a0_0 + 1)) % 256] : List Int) : List Int)).bind fun y244 => (if a0_0 = 1 then (if y244.length < 140737488355328 then (some (y244 ++ [(a0_1) % 256])) else (none)) else (if a0_0 = 2 then ((vellumref02_whole.f k a0_1).bind fun t250 => (if y244.length + t250.length < 140737488355328 then (some (y244 ++ t250)) else (none))) else (if a0_0 = 3 then ((vellumref02_real.f k a0_2).bind fun t256 => (if y244.length + t256.length < 140737488355328 then (some (y244 ++ t256)) else (none))) else (if a0_0 = 4 then ((vellumref02_ended.f k a0_3).bind fun t262 => (if y244.length + t262.length < 140737488355328 then (some (y244 ++ t262)) else (none))) else (if a0_0 = 5 then ((vellumref02_ended.f k a0_3).bind fun t268 => (if y244.length + t268.length < 140737488355328 then (some (y244 ++ t268)) else (none))) else (some y244))))))
mutual
def vellumref02_Encode.l0 : Nat → List (S50) → Int → Option (ByteArray × Int)
  | 0, _, _ => none
  | k + 1, x0, x4 => if x4 < (x0.length : Int) then (if 0 ≤ x4 then ((vellumref01_Check.f k ((rd_T50 x0 x4).f0) ((rd_T50 x0 x4).f1) ((rd_T50 x0 x4).f2) ((rd_T50 x0 x4).f3)).bind fun t275 => (if t275 = 0 then (vellumref02_Encode.l0 k x0 (wrap64 (x4 + 1))) else (some ((⟨#[]⟩ : ByteArray), 10)))) else (none)) else (vellumref02_Encode.l1 k x0 ([] : List Int) 0)
def vellumref02_Encode.l1 : Nat → List (S50) → List Int → Int → Option (ByteArray × Int)
  | 0, _, _, _ => none
  | k + 1, x0, x5, x6 => if x6 < (x0.length : Int) then (if 0 ≤ x6 then ((vellumref02_code.f k ((rd_T50 x0 x6).f0) ((rd_T50 x0 x6).f1) ((rd_T50 x0 x6).f2) ((rd_T50 x0 x6).f3)).bind fun t277 => (if x5.length + t277.length < 140737488355328 then ((some (x5 ++ t277 : List Int)).bind fun y280 => (if (y280.length : Int) > 1024 then (some ((⟨#[]⟩ : ByteArray), 3)) else (vellumref02_Encode.l1 k x0 y280 (wrap64 (x6 + 1))))) else (none))) else (none)) else (some (strOfNums x5, 0))
end
def vellumref02_Encode.f (k : Nat) (l0 : List (S50)) : Option (ByteArray × Int) := vellumref02_Encode.l0 k l0 0
def vellumlaw02_awake.f (k : Nat)  : Option (Bool) := (code_Encode.f k (([(⟨2, 1, 0, (⟨#[]⟩ : ByteArray)⟩ : S50)] : List (S50)))).bind fun bt286 => (if bt286.2 = 0 then (some (bt286.1.toList == ([3, 129, 1] : List UInt8))) else (some false))
set_option maxHeartbeats 8000000 in
set_option maxRecDepth 100000 in
theorem vellumlaw02_awake.calls (k : Nat)  (r : Bool) (w : World) (hG : Glob w) (h : vellumlaw02_awake.f k  = some r) :
    Calls Tryd.prog 23 #[] w fun e w' => e = .returned (.bool r) ∧ Below w.heap.size w w' := by
  have hu50 := Tryd.underlying50
  have HG := am hG
  clear hG
  have HB := am (Below.refl w.heap.size w)
  have H : ((code_Encode.f k (([(⟨2, 1, 0, (⟨#[]⟩ : ByteArray)⟩ : S50)] : List (S50)))).bind fun bt286 => (if bt286.2 = 0 then (some (bt286.1.toList == ([3, 129, 1] : List UInt8))) else (some false))) = some r := h
  clear h
  obtain ⟨y283, hy283⟩ : ∃ y_ : List (S50), y_ = (([(⟨2, 1, 0, (⟨#[]⟩ : ByteArray)⟩ : S50)] : List (S50))) := ⟨_, rfl⟩
  replace H : ((code_Encode.f k y283).bind fun bt286 => (if bt286.2 = 0 then (some (bt286.1.toList == ([3, 129, 1] : List UInt8))) else (some false))) = some r := by first | (rw [hy283]; with_reducible exact H) | (have H2_ := (Option.bind_some _ _).symm.trans H; rw [hy283]; with_reducible exact H2_) | (have H2_ := (Option.bind_some _ _).symm.trans H; with_reducible exact H2_) | with_reducible exact H | (rw [hy283]; exact H) | exact H
  have Ny283 := am hy283
  clear hy283
  replace H := Option.bind_eq_some_iff.mp H
  obtain ⟨⟨t286, t287⟩, A10, H⟩ := H
  replace H : (if t287 = 0 then (some (t286.toList == ([3, 129, 1] : List UInt8))) else (some false)) = some r := H
  have A1 := am A10
  clear A10
  by_cases c2 : t287 = 0
  · rw [if_pos c2] at H
    have c2b0 : (t287 == 0) = true := beq_iff_eq.mpr c2
    have c2b1 : (t287 != 0) = false := bne_eq_false_iff_eq.mpr c2
    clear c2
    obtain rfl := Option.some.inj H
    go_enter Tryd.func23, Tryd.ntmps23
    go_wp2_with (first | ((with_reducible refine gate_dst (N := 5) rfl ?_); refine Kd.R_lit k50 _ 50 ?hg (N := 5) ?hd (xs := ([(⟨2, 1, 0, (⟨#[]⟩ : ByteArray)⟩ : S50)] : List (S50))) (inner := [.int .i64 2, .int .i64 1, .float .f64 0, .string (⟨#[]⟩ : ByteArray)]) (ok := fun _ => True) (okp := fun _ => True) ?hr ?hp (fun _ hk => hk) trivial (Below.refl _ _) (Nat.le_refl _) (by simp) ?_; (case hd => rfl); (case hg => rfl); (case hr => first | (go_simp; done) | (go_simp; rfl)); (case hp => exact (Reps.c4 (show Kd.M k50 _ _ _ (⟨2, 1, 0, (⟨#[]⟩ : ByteArray)⟩ : S50) [.int .i64 2, .int .i64 1, .float .f64 0, .string (⟨#[]⟩ : ByteArray)] from (k50_mkM _ _ _ (⟨2, 1, 0, (⟨#[]⟩ : ByteArray)⟩ : S50) )) (Reps.none _ _))); intro v284 w3 ho4 hb hg_ hnew_; clear hg_ hnew_; (first | rw [← Ny283.out] at ho4 | (simp only [Int.reduceToNat] at ho4; rw [← Ny283.out] at ho4)); have n0_ := am (Kd.R_lower ho4 (below_size (bl HB))); have n1_ := sb HB hb; clear HB; have HO285 := n0_; have HB := n1_; clear n0_ n1_; clear hb ho4; obtain ⟨Ao5, co5, eo5⟩ := Kd.R_slice HO285.out; subst eo5) | ((with_reducible refine gate_callee (f := 21) rfl ?_); refine goesL_ (some 6) rfl rfl Tryd.func21 (by kernel_rfl) rfl #[.slice Ao5 y283.length co5] rfl ar ?_; (with_reducible refine (code_Encode.calls k _ _ y283 t286 t287 _ ?side1 ?side2 (Glob.below HG.out (bl HB)) A1.out).mono ?_); (case side1 => repeat (first | exact (Kd.R_reads' HO285.out).2.2 | (with_reducible refine Kd.C_alloc ?_ _) | (with_reducible refine Kd.C_drewN ?_ _) | (with_reducible refine Kd.C_drew ?_))); (case side2 => exact (Kd.R_reads' HO285.out).2.1); rintro e w6 ⟨rfl, hb⟩; refine ⟨_, rfl, ?_⟩; have n0_ := am (Kd.R_below (Kd.rr HO285.out) hb); have n1_ := sb HB hb; clear HO285; clear HB; have HO285 := n0_; have HB := n1_; clear n0_ n1_; (try clear hb); (try clear hb2 hk hi)))
    go_ret
    exact ⟨er, bl HB⟩
  · rw [if_neg c2] at H
    have c2b0 : (t287 == 0) = false := beq_eq_false_iff_ne.mpr c2
    have c2b1 : (t287 != 0) = true := bne_iff_ne.mpr c2
    obtain rfl := Option.some.inj H
    go_enter Tryd.func23, Tryd.ntmps23
    go_wp2_with (first | ((with_reducible refine gate_dst (N := 5) rfl ?_); refine Kd.R_lit k50 _ 50 ?hg (N := 5) ?hd (xs := ([(⟨2, 1, 0, (⟨#[]⟩ : ByteArray)⟩ : S50)] : List (S50))) (inner := [.int .i64 2, .int .i64 1, .float .f64 0, .string (⟨#[]⟩ : ByteArray)]) (ok := fun _ => True) (okp := fun _ => True) ?hr ?hp (fun _ hk => hk) trivial (Below.refl _ _) (Nat.le_refl _) (by simp) ?_; (case hd => rfl); (case hg => rfl); (case hr => first | (go_simp; done) | (go_simp; rfl)); (case hp => exact (Reps.c4 (show Kd.M k50 _ _ _ (⟨2, 1, 0, (⟨#[]⟩ : ByteArray)⟩ : S50) [.int .i64 2, .int .i64 1, .float .f64 0, .string (⟨#[]⟩ : ByteArray)] from (k50_mkM _ _ _ (⟨2, 1, 0, (⟨#[]⟩ : ByteArray)⟩ : S50) )) (Reps.none _ _))); intro v284 w7 ho8 hb hg_ hnew_; clear hg_ hnew_; (first | rw [← Ny283.out] at ho8 | (simp only [Int.reduceToNat] at ho8; rw [← Ny283.out] at ho8)); have n0_ := am (Kd.R_lower ho8 (below_size (bl HB))); have n1_ := sb HB hb; clear HB; have HO285 := n0_; have HB := n1_; clear n0_ n1_; clear hb ho8; obtain ⟨Ao9, co9, eo9⟩ := Kd.R_slice HO285.out; subst eo9) | ((with_reducible refine gate_callee (f := 21) rfl ?_); refine goesL_ (some 6) rfl rfl Tryd.func21 (by kernel_rfl) rfl #[.slice Ao9 y283.length co9] rfl ar ?_; (with_reducible refine (code_Encode.calls k _ _ y283 t286 t287 _ ?side1 ?side2 (Glob.below HG.out (bl HB)) A1.out).mono ?_); (case side1 => repeat (first | exact (Kd.R_reads' HO285.out).2.2 | (with_reducible refine Kd.C_alloc ?_ _) | (with_reducible refine Kd.C_drewN ?_ _) | (with_reducible refine Kd.C_drew ?_))); (case side2 => exact (Kd.R_reads' HO285.out).2.1); rintro e w10 ⟨rfl, hb⟩; refine ⟨_, rfl, ?_⟩; have n0_ := am (Kd.R_below (Kd.rr HO285.out) hb); have n1_ := sb HB hb; clear HO285; clear HB; have HO285 := n0_; have HB := n1_; clear n0_ n1_; (try clear hb); (try clear hb2 hk hi)))
    go_ret
    exact ⟨er, bl HB⟩
end Go.Proofs.YtpiifdbicibelaaDoor.PA
end
section
namespace Go.Proofs.YtpiifdbicibelaaDoor.Pure
open Go.RowKit Go.Proofs Go.Proofs.YtpiifdbicibelaaDoorW.PrintWords Go.Proofs.YtpiifdbicibelaaDoorW.PrintLast Go.Proofs.YtpiifdbicibelaaDoorW.PrintMore Go.Proofs.YtpiifdbicibelaaDoor.PA Go.Proofs.YtpiifdbicibelaaDoor.OpenK
set_option linter.unusedVariables false
/-- From some number of rounds on, f answers v. -/
def Ev {α : Type} (f : Nat → Option α) (v : α) : Prop := ∃ k0, ∀ k, k0 ≤ k → f k = some v
namespace Ev
variable {α β : Type} {f g : Nat → Option α} {v : α}
theorem pure {v : α} : Ev (fun _ => some v) v := ⟨0, fun _ _ => rfl⟩
theorem const {o : Option α} (h : o = some v) : Ev (fun _ => o) v := ⟨0, fun _ _ => h⟩
theorem bind {F : Nat → α → Option β} {b : β} (h : Ev f v) (h2 : Ev (fun k => F k v) b) : Ev (fun k => (f k).bind (F k)) b := by
  obtain ⟨k0, h⟩ := h
  obtain ⟨k1, h2⟩ := h2
  exact ⟨max k0 k1, fun k hk => by show (f k).bind (F k) = some b; rw [h k (by omega)]; exact h2 k (by omega)⟩
theorem step (h : ∀ k, f (k + 1) = g k) (hg : Ev g v) : Ev f v := by
  obtain ⟨k0, hg⟩ := hg
  refine ⟨k0 + 1, fun k hk => ?_⟩
  obtain ⟨j, rfl⟩ : ∃ j, k = j + 1 := ⟨k - 1, by omega⟩
  rw [h]; exact hg j (by omega)
theorem from_ (n : Nat) (h : ∀ k, f (k + n) = some v) : Ev f v := ⟨n, fun k hk => by have := h (k - n); rwa [Nat.sub_add_cancel hk] at this⟩
theorem congr (h : ∀ k, f k = g k) (hg : Ev g v) : Ev f v := by obtain ⟨k0, hg⟩ := hg; exact ⟨k0, fun k hk => by rw [h]; exact hg k hk⟩
theorem pos {c : Prop} [Decidable c] (hc : c) (h : Ev f v) : Ev (fun k => if c then f k else g k) v := congr (fun k => if_pos hc) h
theorem neg {c : Prop} [Decidable c] (hc : ¬ c) (h : Ev g v) : Ev (fun k => if c then f k else g k) v := congr (fun k => if_neg hc) h
theorem ex (h : Ev f v) : ∃ k, f k = some v := by obtain ⟨k0, h⟩ := h; exact ⟨k0, h k0 (Nat.le_refl _)⟩
end Ev
theorem wrap64_id {n : Int} (h0 : -9223372036854775808 ≤ n) (h1 : n < 9223372036854775808) : wrap64 n = n := by unfold wrap64; omega
theorem u64_wrap (n : Int) : IntKind.u64.wrap n = n % 18446744073709551616 := by
  simp [IntKind.wrap, IntKind.signed, IntKind.bits]
theorem u64_wrap_id {n : Int} (h0 : 0 ≤ n) (h1 : n < 18446744073709551616) : IntKind.u64.wrap n = n := by rw [u64_wrap]; omega
def be (u : Int) : Nat → List Int
  | 0 => []
  | n + 1 => (u / 256 ^ n) % 256 :: be u n
theorem be_length (u : Int) : ∀ n, (be u n).length = n
  | 0 => rfl
  | n + 1 => by simp [be, be_length u n]
/-- How many bytes a number has. -/
def nb (u : Nat) : Nat := if h : u = 0 then 0 else 1 + nb (u / 256)
decreasing_by omega
theorem nb_le (n : Nat) : ∀ u, u < 256 ^ n → nb u ≤ n := by
  induction n with
  | zero => intro u h; simp at h; subst h; unfold nb; simp
  | succ n ih =>
    intro u h
    unfold nb
    split
    · omega
    · have := ih (u / 256) (by rw [Nat.pow_succ] at h; omega)
      omega
theorem nb_pos {u : Nat} (h : u ≠ 0) : 1 ≤ nb u := by unfold nb; rw [dif_neg h]; omega
theorem pow256 : ∀ n : Nat, (2 : Int) ^ (8 * n) = 256 ^ n
  | 0 => rfl
  | n + 1 => by rw [Nat.mul_add, Int.pow_add, pow256 n]; rfl
theorem shr_be {u : Int} {n : Nat} (hn : n < 8) : (shr .u64 u (8 * (n : Int))) = u / 256 ^ n := by
  unfold shr
  have e : min (8 * (n : Int)).toNat IntKind.u64.bits = 8 * n := by
    have : IntKind.u64.bits = 64 := rfl
    omega
  rw [e, pow256]
theorem high_l0 (u : Int) : ∀ (n : Nat) (l : List Int), n ≤ 8 → l.length + 8 < 140737488355328 → Ev (fun k => code_high.l0 k l u ((n : Int) - 1)) (l ++ be u n) := by
  have go : ∀ (n : Nat) (l : List Int), n ≤ 8 → l.length + n < 140737488355328 → Ev (fun k => code_high.l0 k l u ((n : Int) - 1)) (l ++ be u n) := by
    intro n
    induction n with
    | zero =>
      intro l _ _
      refine Ev.from_ 1 fun k => ?_
      simp [code_high.l0, be]
    | succ n ih =>
      intro l hn hl
      have e : ((n + 1 : Nat) : Int) - 1 = n := by omega
      rw [e]
      refine Ev.step (g := fun k => code_high.l0 k (l ++ [u / 256 ^ n % 256]) u ((n : Int) - 1)) (fun k => ?_) ?_
      · simp only [code_high.l0]
        rw [if_pos (by omega), wrap64_id (n := 8 * (n : Int)) (by omega) (by omega), if_pos (by omega), if_pos (by omega), shr_be (by omega), wrap64_id (by omega) (by omega)]
      · have := ih (l ++ [u / 256 ^ n % 256]) (by omega) (by simp; omega)
        simpa [be] using this
  exact fun n l hn hl => go n l hn (by omega)
theorem high_ev (u : Int) (n : Nat) (l : List Int) (hn : n ≤ 8) (hl : l.length + 8 < 140737488355328) : Ev (fun k => code_high.f k l u n) (l ++ be u n) := by
  refine Ev.congr (fun k => ?_) (high_l0 u n l hn hl)
  unfold code_high.f
  rw [wrap64_id (by omega) (by omega)]
theorem big_ev (u : Int) (n : Nat) (hn : n ≤ 8) : Ev (fun k => vellumref02_big.f k u n) (be u n) := by
  have go : ∀ (n : Nat) (l : List Int), n ≤ 8 → l.length + n < 140737488355328 → Ev (fun k => vellumref02_big.l0 k u l ((n : Int) - 1)) (l ++ be u n) := by
    intro n
    induction n with
    | zero =>
      intro l _ _
      refine Ev.from_ 1 fun k => ?_
      simp [vellumref02_big.l0, be]
    | succ n ih =>
      intro l hn hl
      have e : ((n + 1 : Nat) : Int) - 1 = n := by omega
      rw [e]
      refine Ev.step (g := fun k => vellumref02_big.l0 k u (l ++ [u / 256 ^ n % 256]) ((n : Int) - 1)) (fun k => ?_) ?_
      · simp only [vellumref02_big.l0]
        rw [if_pos (by omega), wrap64_id (n := 8 * (n : Int)) (by omega) (by omega), u64_wrap_id (n := 8 * (n : Int)) (by omega) (by omega), if_pos (by omega), if_pos (by omega), shr_be (by omega), wrap64_id (by omega) (by omega)]
      · have := ih (l ++ [u / 256 ^ n % 256]) (by omega) (by simp; omega)
        simpa [be] using this
  refine Ev.congr (fun k => ?_) (go n [] hn (by simp; omega))
  unfold vellumref02_big.f
  rw [wrap64_id (by omega) (by omega)]
theorem size_ref (u : Nat) (hu : u < 18446744073709551616) : Ev (fun k => vellumref02_size.f k (u : Int)) (nb u : Int) := by
  have go : ∀ (m u n : Nat), u < 256 ^ m → n + m ≤ 8 → Ev (fun k => vellumref02_size.l0 k (u : Int) (n : Int)) ((n + nb u : Nat) : Int) := by
    intro m
    induction m with
    | zero =>
      intro u n h _
      obtain rfl : u = 0 := by simpa using h
      refine Ev.from_ 1 fun k => ?_
      unfold nb
      simp [vellumref02_size.l0]
    | succ m ih =>
      intro u n h hn
      by_cases h0 : u = 0
      · subst h0
        refine Ev.from_ 1 fun k => ?_
        unfold nb
        simp [vellumref02_size.l0]
      · refine Ev.step (g := fun k => vellumref02_size.l0 k ((u / 256 : Nat) : Int) ((n + 1 : Nat) : Int)) (fun k => ?_) ?_
        · simp only [vellumref02_size.l0]
          rw [if_pos (by omega), wrap64_id (by omega) (by omega)]
          rfl
        · have := ih (u / 256) (n + 1) (by rw [Nat.pow_succ] at h; omega) (by omega)
          have e : nb u = 1 + nb (u / 256) := by rw [nb, dif_neg h0]
          rw [e]
          have e2 : n + (1 + nb (u / 256)) = n + 1 + nb (u / 256) := by omega
          rw [e2]
          exact this
  have := go 8 u 0 (by simpa using hu) (by omega)
  simpa [vellumref02_size.f] using this
theorem bitLen_nb (u : Nat) (hu : u < 18446744073709551616) : (Lib.bitLen u + 7) / 8 = nb u := by
  have aux : ∀ (m f u : Nat), u < 256 ^ m → 8 * m ≤ f → (Lib.bitLenAux f u + 7) / 8 = nb u := by
    intro m
    induction m with
    | zero =>
      intro f u h _
      obtain rfl : u = 0 := by simpa using h
      unfold nb
      cases f <;> simp [Lib.bitLenAux]
    | succ m ih =>
      intro f u h hf
      by_cases h0 : u = 0
      · subst h0
        unfold nb
        cases f <;> simp [Lib.bitLenAux]
      · rw [nb, dif_neg h0]
        have hlt : u / 256 < 256 ^ m := by rw [Nat.pow_succ] at h; omega
        obtain ⟨f, rfl⟩ : ∃ g, f = g + 8 := ⟨f - 8, by omega⟩
        have := ih f (u / 256) hlt (by omega)
        have z : ∀ g, Lib.bitLenAux g 0 = 0 := fun g => by cases g <;> simp [Lib.bitLenAux]
        have st : ∀ g x, x ≠ 0 → Lib.bitLenAux (g + 1) x = 1 + Lib.bitLenAux g (x / 2) := fun g x hx => by simp [Lib.bitLenAux, hx]
        by_cases h8 : u / 256 = 0
        · rw [h8, z] at this
          have hb : 1 ≤ Lib.bitLenAux (f + 8) u ∧ Lib.bitLenAux (f + 8) u ≤ 8 := by
            have step : ∀ (j g x : Nat), x < 2 ^ j → Lib.bitLenAux (g + j) x ≤ j := by
              intro j
              induction j with
              | zero => intro g x hx; obtain rfl : x = 0 := by simpa using hx
                        rw [z]; omega
              | succ j ihj =>
                intro g x hx
                by_cases hx0 : x = 0
                · subst hx0; rw [z]; omega
                · rw [← Nat.add_assoc, st _ _ hx0]
                  have := ihj g (x / 2) (by rw [Nat.pow_succ] at hx; omega)
                  omega
            refine ⟨?_, step 8 f u (by omega)⟩
            rw [st _ _ h0]; omega
          have hnb : nb (u / 256) = 0 := by rw [h8]; unfold nb; simp
          rw [hnb]
          omega
        · have e : Lib.bitLenAux (f + 8) u = 8 + Lib.bitLenAux f (u / 256) := by
            rw [st (f + 7) u h0, st (f + 6) (u / 2) (by omega), st (f + 5) (u / 2 / 2) (by omega), st (f + 4) (u / 2 / 2 / 2) (by omega), st (f + 3) (u / 2 / 2 / 2 / 2) (by omega),
              st (f + 2) (u / 2 / 2 / 2 / 2 / 2) (by omega), st (f + 1) (u / 2 / 2 / 2 / 2 / 2 / 2) (by omega), st f (u / 2 / 2 / 2 / 2 / 2 / 2 / 2) (by omega)]
            have : u / 2 / 2 / 2 / 2 / 2 / 2 / 2 / 2 = u / 256 := by omega
            rw [this]; omega
          rw [e]; omega
  exact aux 8 64 u (by simpa using hu) (by omega)
theorem size_code (u : Nat) (hu : u < 18446744073709551616) : code_size.f (u : Int) = some (nb u : Int) := by
  unfold code_size.f bits_Len64.f
  rw [if_pos (by omega)]
  have h64 : Lib.bitLen u ≤ 64 := by
    have := bitLen_nb u hu
    have := nb_le 8 u (by simpa using hu)
    omega
  simp only [Option.bind_some, Int.toNat_natCast]
  rw [wrap64_id (n := (Lib.bitLen u : Int) + 7) (by omega) (by omega)]
  have e : Int.tdiv ((Lib.bitLen u : Int) + 7) 8 = (nb u : Int) := by
    rw [← bitLen_nb u hu, Int.tdiv_eq_ediv_of_nonneg (by omega)]
    omega
  have := nb_le 8 u (by simpa using hu)
  rw [e, wrap64_id (by omega) (by omega)]
theorem not64_eq (x : Int) (h0 : 0 ≤ x) (h1 : x < 18446744073709551616) : not64 x = 18446744073709551615 - x := by
  have e : not64 x = IntKind.u64.wrap (((BitVec.ofInt 64 18446744073709551615) ^^^ (BitVec.ofInt 64 x)).toNat : Int) := rfl
  have e1 : BitVec.ofInt 64 18446744073709551615 = BitVec.allOnes 64 := by decide
  have e2 : (BitVec.allOnes 64 ^^^ BitVec.ofInt 64 x) = ~~~ (BitVec.ofInt 64 x) := BitVec.allOnes_xor
  rw [e, e1]
  rw [e2, BitVec.toNat_not, BitVec.toNat_ofInt, u64_wrap]
  have : x % ((2 ^ 64 : Nat) : Int) = x := by omega
  rw [this]
  omega
theorem or_top (x : Int) (h0 : 0 ≤ x) (h1 : x < 9223372036854775808) : Go.bits .or .u64 x 9223372036854775808 = x + 9223372036854775808 := by
  have : Go.bits .or .u64 x 9223372036854775808 = IntKind.u64.wrap (((BitVec.ofInt 64 x) ||| (BitVec.ofInt 64 9223372036854775808)).toNat : Int) := rfl
  rw [this, BitVec.toNat_or, BitVec.toNat_ofInt, BitVec.toNat_ofInt, u64_wrap]
  have e1 : (x % ((2 ^ 64 : Nat) : Int)).toNat = x.toNat := by omega
  have e2 : ((9223372036854775808 : Int) % ((2 ^ 64 : Nat) : Int)).toNat = 2 ^ 63 * 1 := by decide
  rw [e1, e2, Nat.or_comm, ← Nat.two_pow_add_eq_or_of_lt (by omega)]
  omega
theorem xor_top (x : Int) (h0 : 0 ≤ x) (h1 : x < 9223372036854775808) : Go.bits .xor .u64 x 9223372036854775808 = x + 9223372036854775808 := by
  rw [← or_top x h0 h1]
  have e1 : Go.bits .xor .u64 x 9223372036854775808 = IntKind.u64.wrap (((BitVec.ofInt 64 x) ^^^ (BitVec.ofInt 64 9223372036854775808)).toNat : Int) := rfl
  have e2 : Go.bits .or .u64 x 9223372036854775808 = IntKind.u64.wrap (((BitVec.ofInt 64 x) ||| (BitVec.ofInt 64 9223372036854775808)).toNat : Int) := rfl
  rw [e1, e2]
  have e3 : ((9223372036854775808 : Int) % ((2 ^ 64 : Nat) : Int)).toNat = 2 ^ 63 := by decide
  have e4 : (x % ((2 ^ 64 : Nat) : Int)).toNat = x.toNat := by omega
  rw [BitVec.toNat_or, BitVec.toNat_xor, BitVec.toNat_ofInt, BitVec.toNat_ofInt, e3, e4]
  congr 2
  apply Nat.eq_of_testBit_eq
  intro i
  rw [Nat.testBit_xor, Nat.testBit_or, Nat.testBit_two_pow]
  by_cases h : 63 = i
  · subst h
    have : x.toNat.testBit 63 = false := Nat.testBit_lt_two_pow (by omega)
    rw [this]; rfl
  · simp [h]
def chk (a b : Int) (c : Nat) (d : ByteArray) : Int :=
  if a < 0 ∨ 5 < a ∨ (a = 1 ∧ b ≠ 0 ∧ b ≠ 1) ∨ (a ≠ 1 ∧ a ≠ 2 ∧ b ≠ 0) ∨ (a ≠ 3 ∧ c ≠ 0) ∨ (a ≠ 4 ∧ a ≠ 5 ∧ d.toList ≠ []) ∨ (a = 4 ∧ Lib.validD d.data.toList = false) then 10
  else if (d.size : Int) > 65536 then 3 else 0
theorem nat_int_zero (c : Nat) : (((c : Nat) : Int) != 0) = decide (c ≠ 0) := by
  by_cases h : c = 0 <;> simp [h]
theorem valid_f (d : ByteArray) (h : d.size ≤ 140737488351232) : utf8_ValidString.f d = some (Lib.validD d.data.toList) := by
  unfold utf8_ValidString.f; rw [if_pos (by omega)]
theorem check_code (k : Nat) (a b : Int) (c : Nat) (d : ByteArray) (h : d.size ≤ 140737488351232) : value_Check.f (k + 6) a b c d = some (chk a b c d) := by
  have hc := nat_int_zero c
  have hv := valid_f d h
  unfold value_Check.f chk
  simp only [value_Check.j0, value_Check.j1, value_Check.j2, value_Check.j3, value_Check.j4, value_Check.j5, hv, hc, Option.bind_some]
  by_cases h1 : a < 0 <;> by_cases h2 : 5 < a <;> by_cases h3 : a = 1 <;> by_cases h4 : a = 2 <;> by_cases h5 : a = 3 <;> by_cases h6 : a = 4 <;> by_cases h7 : a = 5 <;>
    first
    | (exfalso; omega)
    | (by_cases hb : b = 0 <;> by_cases hb1 : b = 1 <;> by_cases hc0 : c = 0 <;> by_cases hd : d.toList = [] <;> by_cases hV : Lib.validD d.data.toList = true <;> simp_all <;> (try (split <;> rfl)) <;> (try (obtain rfl : a = 0 := by omega) <;> simp <;> split <;> rfl))
theorem check_ref (k : Nat) (a b : Int) (c : Nat) (d : ByteArray) (h : d.size ≤ 140737488351232) : vellumref01_Check.f (k + 6) a b c d = some (chk a b c d) := by
  have hc := nat_int_zero c
  have hv := valid_f d h
  unfold vellumref01_Check.f chk
  simp only [vellumref01_Check.j0, vellumref01_Check.j1, vellumref01_Check.j2, vellumref01_Check.j3, vellumref01_Check.j4, hv, hc, Option.bind_some]
  by_cases h1 : a < 0 <;> by_cases h2 : 5 < a <;> by_cases h3 : a = 1 <;> by_cases h4 : a = 2 <;> by_cases h5 : a = 3 <;> by_cases h6 : a = 4 <;> by_cases h7 : a = 5 <;>
    first
    | (exfalso; omega)
    | (by_cases hb : b = 0 <;> by_cases hb1 : b = 1 <;> by_cases hc0 : c = 0 <;> by_cases hd : d.toList = [] <;> by_cases hV : Lib.validD d.data.toList = true <;> simp_all <;> (try (split <;> rfl)) <;> (try (obtain rfl : a = 0 := by omega) <;> simp <;> split <;> rfl))
/-- A whole number's code: a byte that tells sign and size, then the bytes. -/
def codeInt (n : Int) : List Int :=
  if 0 ≤ n then (128 + (nb n.toNat : Int)) :: be n (nb n.toNat)
  else (128 - (max (nb (-(n + 1)).toNat) 1 : Nat) : Int) :: be (18446744073709551615 - -(n + 1)) (max (nb (-(n + 1)).toNat) 1)
/-- A float's code: its bits, the order of the bits made the order of the numbers. -/
def codeBits (b : Nat) : List Int := if b < 9223372036854775808 then be ((b : Int) + 9223372036854775808) 8 else be (18446744073709551615 - (b : Int)) 8
/-- The float that stands for all that are the same to the order. -/
def plainF (b : Nat) : Nat := if feq b 0 = true then 0 else if feq b b = true then b else 9221120237041090560
/-- A text's code: each zero byte is followed by 255; a zero ends it. -/
def codeText : List UInt8 → List Int
  | [] => [0]
  | b :: l => if b = 0 then 0 :: 255 :: codeText l else (b.toNat : Int) :: codeText l
theorem codeText_length : ∀ l : List UInt8, (codeText l).length ≤ 2 * l.length + 1
  | [] => by simp [codeText]
  | b :: l => by
    have := codeText_length l
    simp only [codeText]
    split <;> simp <;> omega
theorem isInt_range {n : Int} (h : (Lit.int .i64 n).wf = true) : -9223372036854775808 ≤ n ∧ n ≤ 9223372036854775807 := by
  simpa [Lit.wf, IntKind.min, IntKind.max, IntKind.signed, IntKind.bits] using h
theorem putInt_ev (l : List Int) (n : Int) (hn : (Lit.int .i64 n).wf = true) (hl : l.length + 10 < 140737488355328) : Ev (fun k => code_putInt.f k l n) (l ++ codeInt n) := by
  obtain ⟨h0, h1⟩ := isInt_range hn
  unfold codeInt
  by_cases hp : 0 ≤ n
  · rw [if_pos hp]
    have hu : IntKind.u64.wrap n = ((n.toNat : Nat) : Int) := by rw [u64_wrap_id hp (by omega)]; omega
    have hnb := nb_le 8 n.toNat (by omega)
    have e2 : (wrap64 (128 + (nb n.toNat : Int))) % 256 = 128 + (nb n.toNat : Int) := by rw [wrap64_id (by omega) (by omega)]; omega
    have := high_ev (n.toNat : Int) (nb n.toNat) (l ++ [128 + (nb n.toNat : Int)]) hnb (by simp; omega)
    refine Ev.congr (g := fun k => (code_high.f k (l ++ [128 + (nb n.toNat : Int)]) (n.toNat : Int) (nb n.toNat : Int)).bind fun t => some t) (fun k => ?_) ?_
    · simp only [code_putInt.f]
      rw [if_pos hp, hu, size_code _ (by omega)]
      simp only [Option.bind_some]
      rw [if_pos (by omega), e2]
    · refine Ev.bind this ?_
      have e : ((n.toNat : Nat) : Int) = n := by omega
      rw [e]
      simpa using Ev.pure
  · rw [if_neg hp]
    have hw : wrap64 (-(wrap64 (n + 1))) = -(n + 1) := by rw [wrap64_id (n := n + 1) (by omega) (by omega), wrap64_id (by omega) (by omega)]
    have hu : IntKind.u64.wrap (wrap64 (-(wrap64 (n + 1)))) = (((-(n + 1)).toNat : Nat) : Int) := by rw [hw, u64_wrap_id (by omega) (by omega)]; omega
    have hnb := nb_le 8 (-(n + 1)).toNat (by omega)
    generalize hu' : (-(n + 1)).toNat = u at *
    have hmx : mx (nb u : Int) 1 = ((max (nb u) 1 : Nat) : Int) := by unfold mx; split <;> omega
    have e2 : (wrap64 (128 - ((max (nb u) 1 : Nat) : Int))) % 256 = 128 - ((max (nb u) 1 : Nat) : Int) := by rw [wrap64_id (by omega) (by omega)]; omega
    have := high_ev (18446744073709551615 - (u : Int)) (max (nb u) 1) (l ++ [128 - ((max (nb u) 1 : Nat) : Int)]) (by omega) (by simp; omega)
    refine Ev.congr (g := fun k => (code_high.f k (l ++ [128 - ((max (nb u) 1 : Nat) : Int)]) (18446744073709551615 - (u : Int)) ((max (nb u) 1 : Nat) : Int)).bind fun t => some t) (fun k => ?_) ?_
    · simp only [code_putInt.f]
      rw [if_neg (by omega), hu, size_code _ (by omega)]
      simp only [Option.bind_some]
      rw [if_pos (by omega), hmx, e2, not64_eq _ (by omega) (by omega)]
    · refine Ev.bind this ?_
      have e : ((u : Nat) : Int) = -(n + 1) := by omega
      rw [e]
      simpa using Ev.pure
theorem whole_ev (n : Int) (hn : (Lit.int .i64 n).wf = true) : Ev (fun k => vellumref02_whole.f k n) (codeInt n) := by
  obtain ⟨h0, h1⟩ := isInt_range hn
  unfold codeInt
  by_cases hp : 0 ≤ n
  · rw [if_pos hp]
    have hu : IntKind.u64.wrap n = ((n.toNat : Nat) : Int) := by rw [u64_wrap_id hp (by omega)]; omega
    have hnb := nb_le 8 n.toNat (by omega)
    have e2 : (wrap64 (128 + (nb n.toNat : Int))) % 256 = 128 + (nb n.toNat : Int) := by rw [wrap64_id (by omega) (by omega)]; omega
    have hb := big_ev (n.toNat : Int) (nb n.toNat) hnb
    have hl := be_length (n.toNat : Int) (nb n.toNat)
    simp only [vellumref02_whole.f, ge_iff_le, hp, if_true, hu]
    refine Ev.bind (size_ref _ (by omega)) ?_
    simp only [e2, Option.bind_some, List.nil_append, List.length_nil, List.length_singleton]
    refine Ev.pos (by omega) (Ev.bind hb ?_)
    rw [hl, if_pos (by omega)]
    have e : ((n.toNat : Nat) : Int) = n := by omega
    rw [e]
    exact Ev.pure
  · rw [if_neg hp]
    have hw : wrap64 (-(wrap64 (n + 1))) = -(n + 1) := by rw [wrap64_id (n := n + 1) (by omega) (by omega), wrap64_id (by omega) (by omega)]
    have hu : IntKind.u64.wrap (wrap64 (-(wrap64 (n + 1)))) = (((-(n + 1)).toNat : Nat) : Int) := by rw [hw, u64_wrap_id (by omega) (by omega)]; omega
    have hnb := nb_le 8 (-(n + 1)).toNat (by omega)
    have eu : (((-(n + 1)).toNat : Nat) : Int) = -(n + 1) := by omega
    generalize hu' : (-(n + 1)).toNat = u at *
    simp only [vellumref02_whole.f, ge_iff_le, hp, if_false, hu]
    refine Ev.bind (size_ref _ (by omega)) ?_
    by_cases h0 : nb u = 0
    · have hb := big_ev (18446744073709551615 - (u : Int)) 1 (by omega)
      have hl := be_length (18446744073709551615 - (u : Int)) 1
      simp only [h0, Int.ofNat_zero, if_true, Option.bind_some, List.nil_append, List.length_nil, List.length_singleton, not64_eq (u : Int) (by omega) (by omega)]
      refine Ev.pos (by omega) (Ev.bind hb ?_)
      rw [hl, if_pos (by omega), ← eu]
      exact Ev.pure
    · have hb := big_ev (18446744073709551615 - (u : Int)) (nb u) (by omega)
      have hl := be_length (18446744073709551615 - (u : Int)) (nb u)
      have e2 : (wrap64 (128 - (nb u : Int))) % 256 = 128 - (nb u : Int) := by rw [wrap64_id (by omega) (by omega)]; omega
      have hm : max (nb u) 1 = nb u := by omega
      have h0' : ¬ ((nb u : Int) = 0) := by omega
      simp only [h0', e2, if_false, Option.bind_some, List.nil_append, List.length_nil, List.length_singleton, not64_eq (u : Int) (by omega) (by omega)]
      refine Ev.pos (by omega) (Ev.bind hb ?_)
      rw [hl, if_pos (by omega), ← eu, hm]
      exact Ev.pure
theorem codeInt_length (n : Int) (hn : (Lit.int .i64 n).wf = true) : (codeInt n).length ≤ 9 := by
  obtain ⟨h0, h1⟩ := isInt_range hn
  have h2 := nb_le 8 n.toNat (by omega)
  have h3 := nb_le 8 (-(n + 1)).toNat (by omega)
  unfold codeInt
  split <;> simp [be_length] <;> omega
end Go.Proofs.YtpiifdbicibelaaDoor.Pure
end
section
namespace Go.Proofs.YtpiifdbicibelaaDoor.PA
open Go.RowKit Go.Proofs.YtpiifdbicibelaaDoorW.PrintWords Go.Proofs.YtpiifdbicibelaaDoorW.PrintLast Go.Proofs.YtpiifdbicibelaaDoorW.PrintMore
attribute [local go_sem] max2_int min2_int max_two min_two max_three min_three max_four min_four
set_option linter.unusedVariables false
set_option linter.unusedSimpArgs false
end Go.Proofs.YtpiifdbicibelaaDoor.PA
end
section
namespace Go.Proofs.YtpiifdbicibelaaDoor.PA
open Go.RowKit Go.Proofs Go.Proofs.YtpiifdbicibelaaDoorW.PrintWords Go.Proofs.YtpiifdbicibelaaDoorW.PrintLast Go.Proofs.YtpiifdbicibelaaDoorW.PrintMore Go.Proofs.YtpiifdbicibelaaDoor.Pure
set_option linter.unusedVariables false
set_option linter.unusedSimpArgs false
def idxF {α : Type} (p : α → Bool) (xs : List α) : Int := if xs.any p then (xs.findIdx p : Int) else -1
theorem any_take {α : Type} {p : α → Bool} {xs : List α} {k : Nat} {y : α} (hy : xs[k]? = some y) (h : ∀ x ∈ xs.take k, p x = false) (hp : p y = true) : idxF p xs = (k : Int) := by
  have hk : k < xs.length := (List.getElem?_eq_some_iff.1 hy).1
  have hyk : xs[k] = y := (List.getElem?_eq_some_iff.1 hy).2
  unfold idxF
  rw [if_pos (List.any_eq_true.2 ⟨y, List.mem_of_getElem? hy, hp⟩)]
  congr 1
  rw [List.findIdx_eq hk]
  refine ⟨by rw [hyk]; exact hp, fun j hj => ?_⟩
  have := h xs[j] (List.mem_take_iff_getElem.2 ⟨j, by omega, rfl⟩)
  simpa using this
theorem any_none {α : Type} {p : α → Bool} {xs : List α} (h : ∀ x ∈ xs.take xs.length, p x = false) : idxF p xs = -1 := by
  unfold idxF
  rw [if_neg]
  rw [List.any_eq_true]
  rintro ⟨x, hx, hp⟩
  rw [h x (by simpa using hx)] at hp
  cases hp
theorem take_step {α : Type} {p : α → Bool} {xs : List α} {k : Nat} {y : α} (hy : xs[k]? = some y) (h : ∀ x ∈ xs.take k, p x = false) (hp : p y = false) : ∀ x ∈ xs.take (k + 1), p x = false := by
  intro x hx
  rw [List.take_add_one, hy] at hx
  rcases List.mem_append.1 hx with h1 | h1
  · exact h x h1
  · simp at h1; subst h1; exact hp
end Go.Proofs.YtpiifdbicibelaaDoor.PA
end
section
namespace Go.Proofs.YtpiifdbicibelaaDoor.PA
open Go.RowKit Go.Proofs.YtpiifdbicibelaaDoorW.PrintWords Go.Proofs.YtpiifdbicibelaaDoorW.PrintLast Go.Proofs.YtpiifdbicibelaaDoorW.PrintMore
attribute [local go_sem] max2_int min2_int max_two min_two max_three min_three max_four min_four
set_option linter.unusedVariables false
set_option linter.unusedSimpArgs false
def code_take.f (a0 : ByteArray) (a1 : Int) : Option (ByteArray × ByteArray × Bool) := if a1 > (a0.size : Int) then (some ((⟨#[]⟩ : ByteArray), (⟨#[]⟩ : ByteArray), false)) else (if 0 ≤ a1 then (if a1 ≤ (a0.size : Int) then (some (a0.extract 0 (a1 : Int).toNat, a0.extract (a1 : Int).toNat a0.size, true)) else (none)) else (none))
set_option maxHeartbeats 8000000 in
set_option maxRecDepth 100000 in
theorem code_take.calls (a0 : ByteArray) (a1 : Int) (r1 : ByteArray) (r2 : ByteArray) (r3 : Bool) (w : World) (h : code_take.f a0 a1 = some (r1, r2, r3)) :
    Calls Tryd.prog 110 #[.string a0, .int .i64 a1] w fun e w' => e = .returned (.tuple #[.string r1, .string r2, .bool r3]) ∧ Drawn0 w w' := by
  have H : (if a1 > (a0.size : Int) then (some ((⟨#[]⟩ : ByteArray), (⟨#[]⟩ : ByteArray), false)) else (if 0 ≤ a1 then (if a1 ≤ (a0.size : Int) then (some (a0.extract 0 (a1 : Int).toNat, a0.extract (a1 : Int).toNat a0.size, true)) else (none)) else (none))) = some (r1, r2, r3) := h
  clear h
  by_cases c3 : a1 > (a0.size : Int)
  · rw [if_pos c3] at H
    have c3b0 : decide ((a0.size : Int) < a1) = true := decide_eq_true c3
    clear c3
    simp only [Option.some.injEq, Prod.mk.injEq] at H
    obtain ⟨rfl, rfl, rfl⟩ := H
    go_enter Tryd.func110, Tryd.ntmps110
    go_wp2
    repeat (go_quiet (fail); try go_wp2)
    go_ret3
    exact ⟨eb, by repeat (first | exact Drawn0.refl _ | apply Drawn0.step)⟩
  · rw [if_neg c3] at H
    have c3b0 : decide ((a0.size : Int) < a1) = false := decide_eq_false c3
    clear c3
    by_cases c4 : 0 ≤ a1
    · rw [if_pos c4] at H
      have c4b0 := eq_true c4
      have c4b1 : decide (0 ≤ a1) = true := decide_eq_true c4
      clear c4
      by_cases c5 : a1 ≤ (a0.size : Int)
      · rw [if_pos c5] at H
        have c5b0 := eq_true c5
        have c5b1 : decide (a1 ≤ (a0.size : Int)) = true := decide_eq_true c5
        clear c5
        have c6b0 := eq_true (oda : 0 ≤ a1)
        have c7b0 := eq_true (oda : a1 ≤ (a0.size : Int))
        simp only [Option.some.injEq, Prod.mk.injEq] at H
        obtain ⟨rfl, rfl, rfl⟩ := H
        go_enter Tryd.func110, Tryd.ntmps110
        go_wp2
        repeat (go_quiet (fail); try go_wp2)
        go_ret3
        exact ⟨eb, by repeat (first | exact Drawn0.refl _ | apply Drawn0.step)⟩
      · rw [if_neg c5] at H
        exact absurd H (by simp)
    · rw [if_neg c4] at H
      exact absurd H (by simp)
def code_number.l0 : Nat → ByteArray → Int → Int → Int → Option (Int)
  | 0, _, _, _, _ => none
  | k + 1, x0, x3, x6, x7 => if x7 < x6 then (if 0 ≤ x7 then (if x7 < (x0.size : Int) then (code_number.l0 k x0 (Go.bits .or .u64 (IntKind.u64.wrap (x3 * 256)) (IntKind.u64.wrap (bt x0 x7))) x6 (wrap64 (x7 + 1))) else (none)) else (none)) else (some x3)
def code_number.f (k : Nat) (a0 : ByteArray) : Option (Int) := code_number.l0 k a0 0 (a0.size : Int) 0
set_option maxHeartbeats 8000000 in
set_option maxRecDepth 100000 in
theorem code_number.calls (k : Nat) (a0 : ByteArray) (r : Int) (w : World) (h : code_number.f k a0 = some r) :
    Calls Tryd.prog 144 #[.string a0] w fun e w' => e = .returned (.int .u64 r) ∧ Drawn0 w w' := by
  have H : (code_number.l0 k a0 0 (a0.size : Int) 0) = some r := h
  clear h
  have H' := am H
  clear H
  go_enter Tryd.func144, Tryd.ntmps144
  go_wp2
  go_loopg [3, 7] k (fun kq v3 v7 w' => ∃ (x3_1 : Int) (x7_1 : Int), v3 = .int .u64 x3_1 ∧ v7 = .int .i64 x7_1 ∧ Aside0 (code_number.l0 kq a0 x3_1 (a0.size : Int) x7_1 = some r) ∧ Aside0 (kq ≤ k) ∧ Drawn0 w w')
  case atStart => exact ⟨(0), (0), eb, eb, H', ⟨Nat.le_refl _⟩, by repeat (first | exact Drawn0.refl _ | apply Drawn0.step)⟩
  case round =>
    clear H'
    try clear c1
    obtain ⟨x3_1, x7_1, rfl, rfl, HA, HK1, ⟨m1, rfl⟩⟩ := hrel
    cases gk with
    | zero => exact absurd HA.out (by simp [code_number.l0])
    | succ k1 =>
      have H := HA.out
      clear HA
      simp only [code_number.l0] at H
      by_cases c2 : x7_1 < (a0.size : Int)
      · rw [if_pos c2] at H
        have c2b0 : decide (x7_1 < (a0.size : Int)) = true := decide_eq_true c2
        clear c2
        by_cases c3 : 0 ≤ x7_1
        · rw [if_pos c3] at H
          have c3b0 : decide (0 ≤ x7_1) = true := decide_eq_true c3
          clear c3
          by_cases c4 : x7_1 < (a0.size : Int)
          · rw [if_pos c4] at H
            have c4b0 : decide (x7_1 < (a0.size : Int)) = true := decide_eq_true c4
            clear c4
            have H' := am H
            clear H
            have p5 : 0 ≤ (x7_1 : Int) := oda
            have q5 : x7_1 < (a0.size : Int) := oda
            have hx5 := bt_at a0 x7_1
            replace p5 := eq_true p5
            replace q5 := eq_true q5
            go_wp2
            go_roundg k1
            case measure => have := HK1.out; omega
            case rel => exact ⟨(Go.bits .or .u64 (IntKind.u64.wrap (x3_1 * 256)) (IntKind.u64.wrap (bt a0 x7_1))), (wrap64 (x7_1 + 1)), eb, eb, H', ⟨by have := HK1.out; omega⟩, by repeat (first | exact Drawn0.refl _ | apply Drawn0.step)⟩
          · rw [if_neg c4] at H
            exact absurd H (by simp)
        · rw [if_neg c3] at H
          exact absurd H (by simp)
      · rw [if_neg c2] at H
        have c2b0 : decide (x7_1 < (a0.size : Int)) = false := decide_eq_false c2
        clear c2
        obtain rfl := Option.some.inj H
        go_wp2
        go_ret
        exact ⟨eb, by repeat (first | exact Drawn0.refl _ | apply Drawn0.step)⟩
def code_getInt.f (k : Nat) (a0 : ByteArray) : Option (Int × Int × Nat × ByteArray × ByteArray × Bool) := (code_take.f a0 1).bind fun bt449 => (if bt449.2.2 = true then (if 0 < (bt449.1.size : Int) then (if (wrap64 ((wrap64 (bt bt449.1 0)) - 128)) < 0 then (if (wrap64 (-(wrap64 ((wrap64 (bt bt449.1 0)) - 128)))) > 8 then (some (0, 0, 0, (⟨#[]⟩ : ByteArray), (⟨#[]⟩ : ByteArray), false)) else ((code_take.f bt449.2.1 (wrap64 (-(wrap64 ((wrap64 (bt bt449.1 0)) - 128))))).bind fun bt452 => (if bt452.2.2 = true then ((code_number.f k bt452.1).bind fun t455 => (if 0 ≤ (wrap64 (64 - (wrap64 (8 * (wrap64 (-(wrap64 ((wrap64 (bt bt449.1 0)) - 128)))))))) then ((code_size.f (Go.bits .xor .u64 t455 (shr .u64 18446744073709551615 (wrap64 (64 - (wrap64 (8 * (wrap64 (-(wrap64 ((wrap64 (bt bt449.1 0)) - 128))))))))))).bind fun t456 => (if t456 = (wrap64 (-(wrap64 ((wrap64 (bt bt449.1 0)) - 128)))) then (if (Go.bits .xor .u64 t455 (shr .u64 18446744073709551615 (wrap64 (64 - (wrap64 (8 * (wrap64 (-(wrap64 ((wrap64 (bt bt449.1 0)) - 128)))))))))) > 9223372036854775807 then (some (0, 0, 0, (⟨#[]⟩ : ByteArray), (⟨#[]⟩ : ByteArray), false)) else (some (2, wrap64 ((wrap64 (-(wrap64 (Go.bits .xor .u64 t455 (shr .u64 18446744073709551615 (wrap64 (64 - (wrap64 (8 * (wrap64 (-(wrap64 ((wrap64 (bt bt449.1 0)) - 128))))))))))))) - 1), 0, (⟨#[]⟩ : ByteArray), bt452.2.1, true))) else (if (Go.bits .xor .u64 t455 (shr .u64 18446744073709551615 (wrap64 (64 - (wrap64 (8 * (wrap64 (-(wrap64 ((wrap64 (bt bt449.1 0)) - 128)))))))))) = 0 then (if ((wrap64 (-(wrap64 ((wrap64 (bt bt449.1 0)) - 128)))) = 1) then (if (Go.bits .xor .u64 t455 (shr .u64 18446744073709551615 (wrap64 (64 - (wrap64 (8 * (wrap64 (-(wrap64 ((wrap64 (bt bt449.1 0)) - 128)))))))))) > 9223372036854775807 then (some (0, 0, 0, (⟨#[]⟩ : ByteArray), (⟨#[]⟩ : ByteArray), false)) else (some (2, wrap64 ((wrap64 (-(wrap64 (Go.bits .xor .u64 t455 (shr .u64 18446744073709551615 (wrap64 (64 - (wrap64 (8 * (wrap64 (-(wrap64 ((wrap64 (bt bt449.1 0)) - 128))))))))))))) - 1), 0, (⟨#[]⟩ : ByteArray), bt452.2.1, true))) else (some (0, 0, 0, (⟨#[]⟩ : ByteArray), (⟨#[]⟩ : ByteArray), false))) else (some (0, 0, 0, (⟨#[]⟩ : ByteArray), (⟨#[]⟩ : ByteArray), false))))) else (none))) else (some (0, 0, 0, (⟨#[]⟩ : ByteArray), (⟨#[]⟩ : ByteArray), false))))) else (if (wrap64 ((wrap64 (bt bt449.1 0)) - 128)) > 8 then (some (0, 0, 0, (⟨#[]⟩ : ByteArray), (⟨#[]⟩ : ByteArray), false)) else ((code_take.f bt449.2.1 (wrap64 ((wrap64 (bt bt449.1 0)) - 128))).bind fun bt457 => (if bt457.2.2 = true then ((code_number.f k bt457.1).bind fun t460 => ((code_size.f t460).bind fun t461 => (if t461 = (wrap64 ((wrap64 (bt bt449.1 0)) - 128)) then (if t460 > 9223372036854775807 then (some (0, 0, 0, (⟨#[]⟩ : ByteArray), (⟨#[]⟩ : ByteArray), false)) else (some (2, wrap64 (t460), 0, (⟨#[]⟩ : ByteArray), bt457.2.1, true))) else (some (0, 0, 0, (⟨#[]⟩ : ByteArray), (⟨#[]⟩ : ByteArray), false))))) else (some (0, 0, 0, (⟨#[]⟩ : ByteArray), (⟨#[]⟩ : ByteArray), false)))))) else (none)) else (some (0, 0, 0, (⟨#[]⟩ : ByteArray), (⟨#[]⟩ : ByteArray), false)))
end Go.Proofs.YtpiifdbicibelaaDoor.PA
end
