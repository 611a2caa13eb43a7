/- Part 4 of what the proof of CodeOwn stands on: words for walks, printed functions with their contracts, plain laws. -/
import Derived.Test.YtpiifdbicibelaaDoorKCodeOwn2
section
namespace Go.Proofs.YtpiifdbicibelaaDoor.PA
open Go.RowKit Go.Proofs.YtpiifdbicibelaaDoorW.PrintWords Go.Proofs.YtpiifdbicibelaaDoorW.PrintLast Go.Proofs.YtpiifdbicibelaaDoorW.PrintMore
attribute [local go_sem] max2_int min2_int max_two min_two max_three min_three max_four min_four
set_option linter.unusedVariables false
set_option linter.unusedSimpArgs false
def code_Decode.l0 : Nat → ByteArray → List (S50) → Option ((List (S50)) × Int)
  | 0, _, _ => none
  | k + 1, x0, x4 => if (x0.size : Int) > 0 then ((code_get.f k x0).bind fun bt499 => (if bt499.2.2.2.2.2 = true then (if x4.length < 3518437208883 then (code_Decode.l0 k bt499.2.2.2.2.1 (x4 ++ [(⟨bt499.1, bt499.2.1, bt499.2.2.1, bt499.2.2.2.1⟩ : S50)])) else (none)) else (some (([] : List (S50)), 20)))) else (some (x4, 0))
def code_Decode.f (k : Nat) (a0 : ByteArray) : Option ((List (S50)) × Int) := if (a0.size : Int) > 1024 then (some (([] : List (S50)), 3)) else (code_Decode.l0 k a0 ([] : List (S50)))
set_option maxHeartbeats 8000000 in
set_option maxRecDepth 100000 in
theorem code_Decode.calls (k : Nat) (a0 : ByteArray) (r1 : List (S50)) (r2 : Int) (w : World) (hG : Glob w) (h : code_Decode.f k a0 = some (r1, r2)) :
    Calls Tryd.prog 43 #[.string a0] w fun e w' => ∃ v0_ : Value, e = .returned (.tuple #[v0_, .int .i64 r2]) ∧ Kd.R k50 50 w' w.heap.size (fun _ => True) v0_ r1 ∧ Below w.heap.size w w' := by
  have hu50 := Tryd.underlying50
  have HG := am hG
  clear hG
  have HB := am (Below.refl w.heap.size w)
  have H : (if (a0.size : Int) > 1024 then (some (([] : List (S50)), 3)) else (code_Decode.l0 k a0 ([] : List (S50)))) = some (r1, r2) := h
  clear h
  by_cases c2 : (a0.size : Int) > 1024
  · rw [if_pos c2] at H
    have c2b0 : decide (1024 < (a0.size : Int)) = true := decide_eq_true c2
    have c2b1 : decide (1024 < a0.size) = true := decide_eq_true (by omega)
    clear c2
    simp only [Option.some.injEq, Prod.mk.injEq] at H
    obtain ⟨rfl, rfl⟩ := H
    go_enter Tryd.func43, Tryd.ntmps43
    go_wp2
    go_ret2
    exact ⟨_, er, by first | exact Kd.R_nil _ _ _ _ _ | exact Kd.N_nil _ _ _ _ _ | exact Kd.V_nil _ _ _ _ _ | exact Kd.Q_nil _ _ _ _ _ | exact Kd.S_nil _ _ _ _ _, bl HB⟩
  · rw [if_neg c2] at H
    have c2b0 : decide (1024 < (a0.size : Int)) = false := decide_eq_false c2
    have c2b1 : decide (1024 < a0.size) = false := decide_eq_false (by omega)
    clear c2
    have H' := am H
    clear H
    go_enter Tryd.func43, Tryd.ntmps43
    go_wp2
    go_loopg [0, 4] k (fun kq v0 v4 w' => ∃ (x0_1 : ByteArray) (x4_1 : List (S50)), v0 = .string x0_1 ∧ Aside0 (code_Decode.l0 kq x0_1 x4_1 = some (r1, r2)) ∧ Aside0 (kq ≤ k) ∧ Aside0 (Kd.R k50 50 w' w.heap.size (fun _ => True) v4 x4_1) ∧ Aside0 (Below w.heap.size w w'))
    case atStart => exact ⟨(a0), (([] : List (S50))), eb, H', ⟨Nat.le_refl _⟩, ⟨by first | exact Kd.R_nil _ _ _ _ _ | exact Kd.N_nil _ _ _ _ _ | exact Kd.V_nil _ _ _ _ _ | exact Kd.Q_nil _ _ _ _ _ | exact Kd.S_nil _ _ _ _ _⟩, ⟨bl HB⟩⟩
    case round =>
      clear H'
      try clear c2
      try clear c2b0
      try clear c2b1
      try clear p2
      obtain ⟨x0_1, x4_1, rfl, HA, HK1, HO_4, HB⟩ := hrel
      cases gk with
      | zero => exact absurd HA.out (by simp [code_Decode.l0])
      | succ k1 =>
        have H := HA.out
        clear HA
        simp only [code_Decode.l0] at H
        by_cases c3 : (x0_1.size : Int) > 0
        · rw [if_pos c3] at H
          have c3b0 : decide (0 < (x0_1.size : Int)) = true := decide_eq_true c3
          have c3b1 : decide (0 < x0_1.size) = true := decide_eq_true (by omega)
          clear c3
          replace H := Option.bind_eq_some_iff.mp H
          obtain ⟨⟨t499, t500, t501, t502, t503, t504⟩, A40, H⟩ := H
          replace H : (if t504 = true then (if x4_1.length < 3518437208883 then (code_Decode.l0 k1 t503 (x4_1 ++ [(⟨t499, t500, t501, t502⟩ : S50)])) else (none)) else (some (([] : List (S50)), 20))) = some (r1, r2) := H
          have A4 := am A40
          clear A40
          by_cases c5 : t504 = true
          · subst c5
            have H1 : (if x4_1.length < 3518437208883 then (code_Decode.l0 k1 t503 (x4_1 ++ [(⟨t499, t500, t501, t502⟩ : S50)])) else (none)) = some (r1, r2) := by rw [if_pos rfl] at H; exact H
            clear H
            have H := H1
            clear H1
            by_cases c6 : x4_1.length < 3518437208883
            · rw [if_pos c6] at H
              have LMc6 := am c6
              clear c6
              obtain ⟨y506, hy506⟩ : ∃ y_ : List (S50), y_ = (x4_1 ++ [(⟨t499, t500, t501, t502⟩ : S50)]) := ⟨_, rfl⟩
              replace H : (code_Decode.l0 k1 t503 y506) = some (r1, r2) := by first | (rw [hy506]; with_reducible exact H) | (have H2_ := (Option.bind_some _ _).symm.trans H; rw [hy506]; with_reducible exact H2_) | (have H2_ := (Option.bind_some _ _).symm.trans H; with_reducible exact H2_) | with_reducible exact H | (rw [hy506]; exact H) | exact H
              have Ny506 := am hy506
              clear hy506
              have H' := am H
              clear H
              go_wp2_with (first | ((with_reducible refine gate_callee (f := 72) rfl ?_); refine goesL_ (some 16) rfl rfl Tryd.func72 (by kernel_rfl) rfl #[.string x0_1] rfl ar ?_; (with_reducible refine (code_get.calls k1 x0_1 t499 t500 t501 t502 t503 true _ (Glob.below HG.out (bl HB)) A4.out).mono ?_); rintro e w7 ⟨rfl, hb⟩; refine ⟨_, rfl, ?_⟩; have n0_ := am (Kd.R_below (Kd.rr HO_4.out) hb); have n1_ := sb HB hb; clear HO_4; clear HB; have HO_4 := n0_; have HB := n1_; clear n0_ n1_; (try clear hb); (try clear hb2 hk hi)) | ((with_reducible refine gate_dst (N := 5) rfl ?_); refine box_event rfl (N := 5) rfl (cs := #[.int .i64 0, .int .i64 0, .float .f64 0, .string (⟨#[]⟩ : ByteArray)]) (t := 50) gs ?_; intro gb505 hg w8 hbox hb; have n0_ := am (Kd.R_below (Kd.R_elderB (Kd.rr HO_4.out) gb505 (Nat.le_of_eq hg.symm)) hb); have n1_ := sb HB hb; have n2_ := am (hbox); have n3_ := gw hg HB; have n4_ := gw hg HB; clear HO_4; clear HB; have HO_4 := n0_; have HB := n1_; have BK505 := n2_; have GW505 := n3_; have GE505 := n4_; clear n0_ n1_ n2_ n3_ n4_; clear hb hbox hg; obtain ⟨Z9_0, Z9_1, Z9_2, Z9_3, Y9_0, Y9_1, Y9_2, Y9_3⟩ := bq4 BK505) | ((with_reducible refine gate_builtin (b := .append) (xs := #[.tmp 22, .tmp 24]) rfl ?_); at_builtin; refine Kd.R_append k50 (w0 := w) w.heap.size rfl (.tmp 22) (.tmp 24) 22 50 (.agg #[(.int .i64 0), (.int .i64 0), (.float .f64 0), (.string ⟨#[]⟩)]) 40 rfl Tryd.underlying22 info50 rfl (by decide) (by omega) u4 x4_1 (⟨t499, t500, t501, t502⟩ : S50) [.int .i64 t499, .int .i64 t500, .float .f64 t501, .string t502] (fun k_ => k_ ≠ gb505) (fun _ => False) rfl (by first | (go_simp; done) | (go_simp; rfl)) ?aP (fun _ hk => hk.elim) ?aF ?aO ?aB ?aS ?aL ?_; (case aP => exact k50_mkM _ _ _ (⟨t499, t500, t501, t502⟩ : S50)); (case aB => exact (bl HB)); (case aF => exact (fun k_ hk => Kd.freshB (g := gb505) (o := .cells #[.int .i64 t499, .int .i64 t500, .float .f64 t501, .string t502] 50 (0, 0)) (by refine rp ?_; refine blk_put (cs := #[.int .i64 t499, .int .i64 t500, .float .f64 t501, .string (⟨#[]⟩ : ByteArray)]) ?_ 3 _ rfl; refine rp ?_; refine blk_put (cs := #[.int .i64 t499, .int .i64 t500, .float .f64 0, .string (⟨#[]⟩ : ByteArray)]) ?_ 2 _ rfl; refine rp ?_; refine blk_put (cs := #[.int .i64 t499, .int .i64 0, .float .f64 0, .string (⟨#[]⟩ : ByteArray)]) ?_ 1 _ rfl; refine rp ?_; refine blk_put (cs := #[.int .i64 0, .int .i64 0, .float .f64 0, .string (⟨#[]⟩ : ByteArray)]) ?_ 0 _ rfl; exact bk BK505) k_ hk)); (case aO => exact (by (with_reducible repeat (first | apply Kd.R_alloc | apply Kd.R_drewN | apply Kd.R_drew)); exact Kd.R_mono (Kd.R_far (p := ⟨gb505, 3, none⟩) (Kd.R_far (p := ⟨gb505, 2, none⟩) (Kd.R_far (p := ⟨gb505, 1, none⟩) (Kd.R_far (p := ⟨gb505, 0, none⟩) (Kd.R_mono HO_4.out (fun k_ hk => (⟨hk, hk.2⟩ : _ ∧ k_ ≠ gb505))) (fun _ hk => hk.2) (.int .i64 t499)) (fun _ hk => hk.2) (.int .i64 t500)) (fun _ hk => hk.2) (.float .f64 t501)) (fun _ hk => hk.2) (.string t502)) (fun _ hk => hk.1.2))); (case aS => exact (below_size (bl HB))); (case aL => have := LMc6.out; omega); intro v507 w10 ho hb hg hat; rw [← Ny506.out] at ho; have n0_ := am (blk_grown (g := gb505) (o := .cells #[.int .i64 t499, .int .i64 t500, .float .f64 t501, .string t502] 50 (0, 0)) (by refine rp ?_; refine blk_put (cs := #[.int .i64 t499, .int .i64 t500, .float .f64 t501, .string (⟨#[]⟩ : ByteArray)]) ?_ 3 _ rfl; refine rp ?_; refine blk_put (cs := #[.int .i64 t499, .int .i64 t500, .float .f64 0, .string (⟨#[]⟩ : ByteArray)]) ?_ 2 _ rfl; refine rp ?_; refine blk_put (cs := #[.int .i64 t499, .int .i64 0, .float .f64 0, .string (⟨#[]⟩ : ByteArray)]) ?_ 1 _ rfl; refine rp ?_; refine blk_put (cs := #[.int .i64 0, .int .i64 0, .float .f64 0, .string (⟨#[]⟩ : ByteArray)]) ?_ 0 _ rfl; exact bk BK505) hg (Kd.R_away HO_4.out (fun _ hk => hk.2))); have n1_ := am (hb); have n2_ := am (ho); clear BK505; clear HB; clear HO_4; have BK505 := n0_; have HB := n1_; have HO508 := n2_; clear n0_ n1_ n2_; clear ho hb hg hat))
              go_roundg k1
              case measure => have := HK1.out; omega
              case rel => exact ⟨(t503), (y506), eb, H', ⟨by have := HK1.out; omega⟩, ⟨by (with_reducible repeat (first | apply Kd.R_alloc | apply Kd.R_drewN | apply Kd.R_drew)); exact Kd.R_mono HO508.out (fun _ hk => trivial)⟩, ⟨bl HB⟩⟩
            · rw [if_neg c6] at H
              exact absurd H (by simp)
          · replace c5 := Bool.eq_false_iff.mpr c5
            subst c5
            have H1 : (some (([] : List (S50)), 20)) = some (r1, r2) := by rw [if_neg (show ¬ (false = true) by decide)] at H; exact H
            clear H
            have H := H1
            clear H1
            simp only [Option.some.injEq, Prod.mk.injEq] at H
            obtain ⟨rfl, rfl⟩ := H
            go_wp2_with (first | ((with_reducible refine gate_callee (f := 72) rfl ?_); refine goesL_ (some 16) rfl rfl Tryd.func72 (by kernel_rfl) rfl #[.string x0_1] rfl ar ?_; (with_reducible refine (code_get.calls k1 x0_1 t499 t500 t501 t502 t503 false _ (Glob.below HG.out (bl HB)) A4.out).mono ?_); rintro e w11 ⟨rfl, hb⟩; refine ⟨_, rfl, ?_⟩; have n0_ := am (Kd.R_below (Kd.rr HO_4.out) hb); have n1_ := sb HB hb; clear HO_4; clear HB; have HO_4 := n0_; have HB := n1_; clear n0_ n1_; (try clear hb); (try clear hb2 hk hi)) | ((with_reducible refine gate_dst (N := 5) rfl ?_); refine box_event rfl (N := 5) rfl (cs := #[.int .i64 0, .int .i64 0, .float .f64 0, .string (⟨#[]⟩ : ByteArray)]) (t := 50) gs ?_; intro gb505 hg w12 hbox hb; have n0_ := am (Kd.R_below (Kd.R_elderB (Kd.rr HO_4.out) gb505 (Nat.le_of_eq hg.symm)) hb); have n1_ := sb HB hb; have n2_ := am (hbox); have n3_ := gw hg HB; have n4_ := gw hg HB; clear HO_4; clear HB; have HO_4 := n0_; have HB := n1_; have BK505 := n2_; have GW505 := n3_; have GE505 := n4_; clear n0_ n1_ n2_ n3_ n4_; clear hb hbox hg; obtain ⟨Z13_0, Z13_1, Z13_2, Z13_3, Y13_0, Y13_1, Y13_2, Y13_3⟩ := bq4 BK505))
            go_ret2
            exact ⟨_, er, by first | exact Kd.R_nil _ _ _ _ _ | exact Kd.N_nil _ _ _ _ _ | exact Kd.V_nil _ _ _ _ _ | exact Kd.Q_nil _ _ _ _ _ | exact Kd.S_nil _ _ _ _ _, bl HB⟩
        · rw [if_neg c3] at H
          have c3b0 : decide (0 < (x0_1.size : Int)) = false := decide_eq_false c3
          have c3b1 : decide (0 < x0_1.size) = false := decide_eq_false (by omega)
          clear c3
          simp only [Option.some.injEq, Prod.mk.injEq] at H
          obtain ⟨rfl, rfl⟩ := H
          go_wp2
          go_ret2
          exact ⟨_, er, Kd.rr HO_4.out, bl HB⟩
def vellumref02_number.l0 : Nat → ByteArray → Int → Int → Option (Int)
  | 0, _, _, _ => none
  | k + 1, x0, x3, x4 => if x4 < (x0.size : Int) then (if 0 ≤ x4 then (vellumref02_number.l0 k x0 (Go.bits .or .u64 (IntKind.u64.wrap (x3 * 256)) (IntKind.u64.wrap (bt x0 x4))) (wrap64 (x4 + 1))) else (none)) else (some x3)
def vellumref02_number.f (k : Nat) (a0 : ByteArray) : Option (Int) := vellumref02_number.l0 k a0 0 0
mutual
def vellumref02_back.j0 : Nat → ByteArray → Bool → Int → Int → Nat → ByteArray → Option (Int × Int × Nat × ByteArray × Int)
  | 0, _, _, _, _, _, _ => none
  | k + 1, x0, x21, x511000, x511001, x511002, x511003 => if x21 = true then (if 1 < (x0.size : Int) then (some (x511000, wrap64 (bt x0 1), x511002, x511003, 2)) else (none)) else (if x511000 = 2 then (vellumref02_back.j1 k x0 (decide ((x0.size : Int) > 1)) x511000 x511001 x511002 x511003) else (vellumref02_back.j1 k x0 false x511000 x511001 x511002 x511003))
def vellumref02_back.j1 : Nat → ByteArray → Bool → Int → Int → Nat → ByteArray → Option (Int × Int × Nat × ByteArray × Int)
  | 0, _, _, _, _, _, _ => none
  | k + 1, x0, x40, x511000, x511001, x511002, x511003 => if x40 = true then (if 1 < (x0.size : Int) then (if (wrap64 ((wrap64 (bt x0 1)) - 128)) < 0 then (vellumref02_back.j2 k x0 (wrap64 ((wrap64 (bt x0 1)) - 128)) (wrap64 (-(wrap64 ((wrap64 (bt x0 1)) - 128)))) x511000 x511001 x511002 x511003) else (vellumref02_back.j2 k x0 (wrap64 ((wrap64 (bt x0 1)) - 128)) (wrap64 ((wrap64 (bt x0 1)) - 128)) x511000 x511001 x511002 x511003)) else (none)) else (if x511000 = 3 then (vellumref02_back.j5 k x0 (decide ((x0.size : Int) > 8)) x511000 x511001 x511002 x511003) else (vellumref02_back.j5 k x0 false x511000 x511001 x511002 x511003))
def vellumref02_back.j2 : Nat → ByteArray → Int → Int → Int → Int → Nat → ByteArray → Option (Int × Int × Nat × ByteArray × Int)
  | 0, _, _, _, _, _, _, _ => none
  | k + 1, x0, x5, x6, x511000, x511001, x511002, x511003 => if x6 > 8 then (vellumref02_back.j3 k x0 x5 x6 true x511000 x511001 x511002 x511003) else (vellumref02_back.j3 k x0 x5 x6 (decide ((x0.size : Int) < (wrap64 (2 + x6)))) x511000 x511001 x511002 x511003)
def vellumref02_back.j3 : Nat → ByteArray → Int → Int → Bool → Int → Int → Nat → ByteArray → Option (Int × Int × Nat × ByteArray × Int)
  | 0, _, _, _, _, _, _, _, _ => none
  | k + 1, x0, x5, x6, x66, x511000, x511001, x511002, x511003 => if x66 = true then (some (x511000, x511001, x511002, x511003, 0)) else (if 2 ≤ (wrap64 (2 + x6)) then (if (wrap64 (2 + x6)) ≤ (x0.size : Int) then ((vellumref02_number.f k (x0.extract 2 ((wrap64 (2 + x6)) : Int).toNat)).bind fun t511 => (if x5 < 0 then (if 0 ≤ (IntKind.u64.wrap (wrap64 (8 * x6))) then (vellumref02_back.j4 k x5 x6 (Go.bits .and .u64 (not64 t511) (IntKind.u64.wrap ((shl .u64 1 (IntKind.u64.wrap (wrap64 (8 * x6)))) - 1))) x511000 x511001 x511002 x511003) else (none)) else (vellumref02_back.j4 k x5 x6 t511 x511000 x511001 x511002 x511003))) else (none)) else (none))
def vellumref02_back.j4 : Nat → Int → Int → Int → Int → Int → Nat → ByteArray → Option (Int × Int × Nat × ByteArray × Int)
  | 0, _, _, _, _, _, _, _ => none
  | k + 1, x5, x6, x7, x511000, x511001, x511002, x511003 => if (x7 / 9223372036854775808) > 0 then (some (x511000, x511001, x511002, x511003, 0)) else (if x5 < 0 then (some (x511000, wrap64 ((wrap64 (-(wrap64 (x7)))) - 1), x511002, x511003, wrap64 (2 + x6))) else (some (x511000, wrap64 (x7), x511002, x511003, wrap64 (2 + x6))))
def vellumref02_back.j5 : Nat → ByteArray → Bool → Int → Int → Nat → ByteArray → Option (Int × Int × Nat × ByteArray × Int)
  | 0, _, _, _, _, _, _ => none
  | k + 1, x0, x100, x511000, x511001, x511002, x511003 => if x100 = true then (if 1 ≤ 9 then (if 9 ≤ (x0.size : Int) then ((vellumref02_number.f k (x0.extract 1 9)).bind fun t512 => (if (t512 / 9223372036854775808) > 0 then (some (x511000, x511001, (Go.bits .xor .u64 t512 9223372036854775808).toNat, x511003, 9)) else (some (x511000, x511001, (not64 t512).toNat, x511003, 9)))) else (none)) else (none)) else (if x511000 = 4 then (vellumref02_back.j6 k x0 true x511000 x511001 x511002 x511003) else (vellumref02_back.j6 k x0 (x511000 == 5) x511000 x511001 x511002 x511003))
def vellumref02_back.j6 : Nat → ByteArray → Bool → Int → Int → Nat → ByteArray → Option (Int × Int × Nat × ByteArray × Int)
  | 0, _, _, _, _, _, _ => none
  | k + 1, x0, x123, x511000, x511001, x511002, x511003 => if x123 = true then (vellumref02_back.l0 k x0 ([] : List Int) 1 x511000 x511001 x511002 x511003) else (some (x511000, x511001, x511002, x511003, 0))
def vellumref02_back.l0 : Nat → ByteArray → List Int → Int → Int → Int → Nat → ByteArray → Option (Int × Int × Nat × ByteArray × Int)
  | 0, _, _, _, _, _, _, _ => none
  | k + 1, x0, x9, x10, x511000, x511001, x511002, x511003 => if x10 < (x0.size : Int) then (if 0 ≤ x10 then (if (bt x0 x10) = 0 then (if (wrap64 (x10 + 1)) = (x0.size : Int) then (some (x511000, x511001, x511002, strOfNums x9, wrap64 (x10 + 1))) else (if 0 ≤ (wrap64 (x10 + 1)) then (if (wrap64 (x10 + 1)) < (x0.size : Int) then (if (bt x0 (wrap64 (x10 + 1))) = 255 then (if x9.length < 140737488355328 then (vellumref02_back.l0 k x0 (x9 ++ [0]) (wrap64 ((wrap64 (x10 + 1)) + 1)) x511000 x511001 x511002 x511003) else (none)) else (some (x511000, x511001, x511002, strOfNums x9, wrap64 (x10 + 1)))) else (none)) else (none))) else (if x9.length < 140737488355328 then (vellumref02_back.l0 k x0 (x9 ++ [bt x0 x10]) (wrap64 (x10 + 1)) x511000 x511001 x511002 x511003) else (none))) else (none)) else (some (x511000, x511001, x511002, x511003, 0))
end
def vellumref02_back.f (k : Nat) (a0 : ByteArray) : Option (Int × Int × Nat × ByteArray × Int) := if 0 < (a0.size : Int) then (if (wrap64 ((wrap64 (bt a0 0)) - 1)) = 0 then (some (wrap64 ((wrap64 (bt a0 0)) - 1), 0, 0, (⟨#[]⟩ : ByteArray), 1)) else (if (wrap64 ((wrap64 (bt a0 0)) - 1)) = 1 then (if (a0.size : Int) > 1 then (if 1 < (a0.size : Int) then (vellumref02_back.j0 k a0 (decide ((bt a0 1) < 2)) (wrap64 ((wrap64 (bt a0 0)) - 1)) 0 0 (⟨#[]⟩ : ByteArray)) else (none)) else (vellumref02_back.j0 k a0 false (wrap64 ((wrap64 (bt a0 0)) - 1)) 0 0 (⟨#[]⟩ : ByteArray))) else (vellumref02_back.j0 k a0 false (wrap64 ((wrap64 (bt a0 0)) - 1)) 0 0 (⟨#[]⟩ : ByteArray)))) else (none)
def vellumref02_Decode.l0 : Nat → ByteArray → List (S50) → Int → Option ((List (S50)) × Int)
  | 0, _, _, _ => none
  | k + 1, x0, x4, x5 => if x5 < (x0.size : Int) then (if 0 ≤ x5 then (if x5 ≤ (x0.size : Int) then ((vellumref02_back.f k (x0.extract (x5 : Int).toNat x0.size)).bind fun bt519 => (if bt519.2.2.2.2 = 0 then (some (([] : List (S50)), 20)) else (if x4.length < 3518437208883 then (vellumref02_Decode.l0 k x0 (x4 ++ [(⟨bt519.1, bt519.2.1, bt519.2.2.1, bt519.2.2.2.1⟩ : S50)]) (wrap64 (x5 + bt519.2.2.2.2))) else (none)))) else (none)) else (none)) else ((vellumref02_Encode.f k x4).bind fun bt528 => (if bt528.2 = 0 then (if bt528.1.toList = x0.toList then (some (x4, 0)) else (some (([] : List (S50)), 20))) else (some (([] : List (S50)), 20))))
def vellumref02_Decode.f (k : Nat) (a0 : ByteArray) : Option ((List (S50)) × Int) := if (a0.size : Int) > 1024 then (some (([] : List (S50)), 3)) else (vellumref02_Decode.l0 k a0 ([] : List (S50)) 0)
def vellumref01_Same.f (a0_0 : Int) (a0_1 : Int) (a0_2 : Nat) (a0_3 : ByteArray) (a1_0 : Int) (a1_1 : Int) (a1_2 : Nat) (a1_3 : ByteArray) : Option (Bool) := if a0_0 = a1_0 then (if a0_1 = a1_1 then (if ((a0_2 : Nat) : Int) = ((a1_2 : Nat) : Int) then (some (a0_3.toList == a1_3.toList)) else (some false)) else (some false)) else (some false)
set_option maxHeartbeats 8000000 in
set_option maxRecDepth 100000 in
theorem vellumref01_Same.calls (a0_0 : Int) (a0_1 : Int) (a0_2 : Nat) (a0_3 : ByteArray) (a1_0 : Int) (a1_1 : Int) (a1_2 : Nat) (a1_3 : ByteArray) (r : Bool) (w : World) (h : vellumref01_Same.f a0_0 a0_1 a0_2 a0_3 a1_0 a1_1 a1_2 a1_3 = some r) :
    Calls Tryd.prog 46 #[.agg #[.int .i64 a0_0, .int .i64 a0_1, .float .f64 a0_2, .string a0_3], .agg #[.int .i64 a1_0, .int .i64 a1_1, .float .f64 a1_2, .string a1_3]] w fun e w' => e = .returned (.bool r) ∧ Below w.heap.size w w' := by
  have hu50 := Tryd.underlying50
  have HB := am (Below.refl w.heap.size w)
  have H : (if a0_0 = a1_0 then (if a0_1 = a1_1 then (if ((a0_2 : Nat) : Int) = ((a1_2 : Nat) : Int) then (some (a0_3.toList == a1_3.toList)) else (some false)) else (some false)) else (some false)) = some r := h
  clear h
  by_cases c3 : a0_0 = a1_0
  · rw [if_pos c3] at H
    have c3b0 : (a0_0 == a1_0) = true := beq_iff_eq.mpr c3
    have c3b1 : (a0_0 != a1_0) = false := bne_eq_false_iff_eq.mpr c3
    clear c3
    by_cases c4 : a0_1 = a1_1
    · rw [if_pos c4] at H
      have c4b0 : (a0_1 == a1_1) = true := beq_iff_eq.mpr c4
      have c4b1 : (a0_1 != a1_1) = false := bne_eq_false_iff_eq.mpr c4
      clear c4
      by_cases c5 : ((a0_2 : Nat) : Int) = ((a1_2 : Nat) : Int)
      · rw [if_pos c5] at H
        have c5b0 : (((a0_2 : Nat) : Int) == ((a1_2 : Nat) : Int)) = true := beq_iff_eq.mpr c5
        have c5b1 : (((a0_2 : Nat) : Int) != ((a1_2 : Nat) : Int)) = false := bne_eq_false_iff_eq.mpr c5
        clear c5
        obtain rfl := Option.some.inj H
        go_enter Tryd.func46, Tryd.ntmps46
        go_wp2_with (first | ((with_reducible refine gate_dst (N := 2) rfl ?_); refine box_event rfl (N := 2) rfl (cs := #[.int .i64 a0_0, .int .i64 a0_1, .float .f64 a0_2, .string a0_3]) (t := 50) gs ?_; intro gb530 hg w6 hbox hb; have BK530 := am (hbox); have GW530 := gw hg HB; have GE530 := gw hg HB; replace HB := sb HB hb; clear hb hbox hg) | ((with_reducible refine gate_dst (N := 3) rfl ?_); refine box_event rfl (N := 3) rfl (cs := #[.int .i64 a1_0, .int .i64 a1_1, .float .f64 a1_2, .string a1_3]) (t := 50) gs ?_; intro gb531 hg w7 hbox hb; have BK531 := am (hbox); have GW531 := gw hg HB; have GE531 := gw hg HB; have NB530_531 := am ((by rw [hg]; exact Nat.ne_of_lt (blk_lt (bk BK530)) : gb530 ≠ gb531)); have NB531_530 := am ((by rw [hg]; exact Nat.ne_of_gt (blk_lt (bk BK530)) : gb531 ≠ gb530)); replace BK530 := kb BK530 hb; replace HB := sb HB hb; clear hb hbox hg; have hnb8 := NB530_531.out; have hnc8 := NB531_530.out; obtain ⟨Z9_0, Z9_1, Z9_2, Z9_3, Y9_0, Y9_1, Y9_2, Y9_3⟩ := bq4 BK530; obtain ⟨Z10_0, Z10_1, Z10_2, Z10_3, Y10_0, Y10_1, Y10_2, Y10_3⟩ := bq4 BK531))
        repeat (go_quiet (fail); try go_wp2_with (first | ((with_reducible refine gate_dst (N := 2) rfl ?_); refine box_event rfl (N := 2) rfl (cs := #[.int .i64 a0_0, .int .i64 a0_1, .float .f64 a0_2, .string a0_3]) (t := 50) gs ?_; intro gb530 hg w6 hbox hb; have BK530 := am (hbox); have GW530 := gw hg HB; have GE530 := gw hg HB; replace HB := sb HB hb; clear hb hbox hg) | ((with_reducible refine gate_dst (N := 3) rfl ?_); refine box_event rfl (N := 3) rfl (cs := #[.int .i64 a1_0, .int .i64 a1_1, .float .f64 a1_2, .string a1_3]) (t := 50) gs ?_; intro gb531 hg w7 hbox hb; have BK531 := am (hbox); have GW531 := gw hg HB; have GE531 := gw hg HB; have NB530_531 := am ((by rw [hg]; exact Nat.ne_of_lt (blk_lt (bk BK530)) : gb530 ≠ gb531)); have NB531_530 := am ((by rw [hg]; exact Nat.ne_of_gt (blk_lt (bk BK530)) : gb531 ≠ gb530)); replace BK530 := kb BK530 hb; replace HB := sb HB hb; clear hb hbox hg; have hnb8 := NB530_531.out; have hnc8 := NB531_530.out; obtain ⟨Z9_0, Z9_1, Z9_2, Z9_3, Y9_0, Y9_1, Y9_2, Y9_3⟩ := bq4 BK530; obtain ⟨Z10_0, Z10_1, Z10_2, Z10_3, Y10_0, Y10_1, Y10_2, Y10_3⟩ := bq4 BK531)))
        go_ret
        exact ⟨er, bl HB⟩
      · rw [if_neg c5] at H
        have c5b0 : (((a0_2 : Nat) : Int) == ((a1_2 : Nat) : Int)) = false := beq_eq_false_iff_ne.mpr c5
        have c5b1 : (((a0_2 : Nat) : Int) != ((a1_2 : Nat) : Int)) = true := bne_iff_ne.mpr c5
        obtain rfl := Option.some.inj H
        go_enter Tryd.func46, Tryd.ntmps46
        go_wp2_with (first | ((with_reducible refine gate_dst (N := 2) rfl ?_); refine box_event rfl (N := 2) rfl (cs := #[.int .i64 a0_0, .int .i64 a0_1, .float .f64 a0_2, .string a0_3]) (t := 50) gs ?_; intro gb530 hg w11 hbox hb; have BK530 := am (hbox); have GW530 := gw hg HB; have GE530 := gw hg HB; replace HB := sb HB hb; clear hb hbox hg) | ((with_reducible refine gate_dst (N := 3) rfl ?_); refine box_event rfl (N := 3) rfl (cs := #[.int .i64 a1_0, .int .i64 a1_1, .float .f64 a1_2, .string a1_3]) (t := 50) gs ?_; intro gb531 hg w12 hbox hb; have BK531 := am (hbox); have GW531 := gw hg HB; have GE531 := gw hg HB; have NB530_531 := am ((by rw [hg]; exact Nat.ne_of_lt (blk_lt (bk BK530)) : gb530 ≠ gb531)); have NB531_530 := am ((by rw [hg]; exact Nat.ne_of_gt (blk_lt (bk BK530)) : gb531 ≠ gb530)); replace BK530 := kb BK530 hb; replace HB := sb HB hb; clear hb hbox hg; have hnb13 := NB530_531.out; have hnc13 := NB531_530.out; obtain ⟨Z14_0, Z14_1, Z14_2, Z14_3, Y14_0, Y14_1, Y14_2, Y14_3⟩ := bq4 BK530; obtain ⟨Z15_0, Z15_1, Z15_2, Z15_3, Y15_0, Y15_1, Y15_2, Y15_3⟩ := bq4 BK531))
        repeat (go_quiet (fail); try go_wp2_with (first | ((with_reducible refine gate_dst (N := 2) rfl ?_); refine box_event rfl (N := 2) rfl (cs := #[.int .i64 a0_0, .int .i64 a0_1, .float .f64 a0_2, .string a0_3]) (t := 50) gs ?_; intro gb530 hg w11 hbox hb; have BK530 := am (hbox); have GW530 := gw hg HB; have GE530 := gw hg HB; replace HB := sb HB hb; clear hb hbox hg) | ((with_reducible refine gate_dst (N := 3) rfl ?_); refine box_event rfl (N := 3) rfl (cs := #[.int .i64 a1_0, .int .i64 a1_1, .float .f64 a1_2, .string a1_3]) (t := 50) gs ?_; intro gb531 hg w12 hbox hb; have BK531 := am (hbox); have GW531 := gw hg HB; have GE531 := gw hg HB; have NB530_531 := am ((by rw [hg]; exact Nat.ne_of_lt (blk_lt (bk BK530)) : gb530 ≠ gb531)); have NB531_530 := am ((by rw [hg]; exact Nat.ne_of_gt (blk_lt (bk BK530)) : gb531 ≠ gb530)); replace BK530 := kb BK530 hb; replace HB := sb HB hb; clear hb hbox hg; have hnb13 := NB530_531.out; have hnc13 := NB531_530.out; obtain ⟨Z14_0, Z14_1, Z14_2, Z14_3, Y14_0, Y14_1, Y14_2, Y14_3⟩ := bq4 BK530; obtain ⟨Z15_0, Z15_1, Z15_2, Z15_3, Y15_0, Y15_1, Y15_2, Y15_3⟩ := bq4 BK531)))
        go_ret
        exact ⟨er, bl HB⟩
    · rw [if_neg c4] at H
      have c4b0 : (a0_1 == a1_1) = false := beq_eq_false_iff_ne.mpr c4
      have c4b1 : (a0_1 != a1_1) = true := bne_iff_ne.mpr c4
      obtain rfl := Option.some.inj H
      go_enter Tryd.func46, Tryd.ntmps46
      go_wp2_with (first | ((with_reducible refine gate_dst (N := 2) rfl ?_); refine box_event rfl (N := 2) rfl (cs := #[.int .i64 a0_0, .int .i64 a0_1, .float .f64 a0_2, .string a0_3]) (t := 50) gs ?_; intro gb530 hg w16 hbox hb; have BK530 := am (hbox); have GW530 := gw hg HB; have GE530 := gw hg HB; replace HB := sb HB hb; clear hb hbox hg) | ((with_reducible refine gate_dst (N := 3) rfl ?_); refine box_event rfl (N := 3) rfl (cs := #[.int .i64 a1_0, .int .i64 a1_1, .float .f64 a1_2, .string a1_3]) (t := 50) gs ?_; intro gb531 hg w17 hbox hb; have BK531 := am (hbox); have GW531 := gw hg HB; have GE531 := gw hg HB; have NB530_531 := am ((by rw [hg]; exact Nat.ne_of_lt (blk_lt (bk BK530)) : gb530 ≠ gb531)); have NB531_530 := am ((by rw [hg]; exact Nat.ne_of_gt (blk_lt (bk BK530)) : gb531 ≠ gb530)); replace BK530 := kb BK530 hb; replace HB := sb HB hb; clear hb hbox hg; have hnb18 := NB530_531.out; have hnc18 := NB531_530.out; obtain ⟨Z19_0, Z19_1, Z19_2, Z19_3, Y19_0, Y19_1, Y19_2, Y19_3⟩ := bq4 BK530; obtain ⟨Z20_0, Z20_1, Z20_2, Z20_3, Y20_0, Y20_1, Y20_2, Y20_3⟩ := bq4 BK531))
      repeat (go_quiet (fail); try go_wp2_with (first | ((with_reducible refine gate_dst (N := 2) rfl ?_); refine box_event rfl (N := 2) rfl (cs := #[.int .i64 a0_0, .int .i64 a0_1, .float .f64 a0_2, .string a0_3]) (t := 50) gs ?_; intro gb530 hg w16 hbox hb; have BK530 := am (hbox); have GW530 := gw hg HB; have GE530 := gw hg HB; replace HB := sb HB hb; clear hb hbox hg) | ((with_reducible refine gate_dst (N := 3) rfl ?_); refine box_event rfl (N := 3) rfl (cs := #[.int .i64 a1_0, .int .i64 a1_1, .float .f64 a1_2, .string a1_3]) (t := 50) gs ?_; intro gb531 hg w17 hbox hb; have BK531 := am (hbox); have GW531 := gw hg HB; have GE531 := gw hg HB; have NB530_531 := am ((by rw [hg]; exact Nat.ne_of_lt (blk_lt (bk BK530)) : gb530 ≠ gb531)); have NB531_530 := am ((by rw [hg]; exact Nat.ne_of_gt (blk_lt (bk BK530)) : gb531 ≠ gb530)); replace BK530 := kb BK530 hb; replace HB := sb HB hb; clear hb hbox hg; have hnb18 := NB530_531.out; have hnc18 := NB531_530.out; obtain ⟨Z19_0, Z19_1, Z19_2, Z19_3, Y19_0, Y19_1, Y19_2, Y19_3⟩ := bq4 BK530; obtain ⟨Z20_0, Z20_1, Z20_2, Z20_3, Y20_0, Y20_1, Y20_2, Y20_3⟩ := bq4 BK531)))
      go_ret
      exact ⟨er, bl HB⟩
  · rw [if_neg c3] at H
    have c3b0 : (a0_0 == a1_0) = false := beq_eq_false_iff_ne.mpr c3
    have c3b1 : (a0_0 != a1_0) = true := bne_iff_ne.mpr c3
    obtain rfl := Option.some.inj H
    go_enter Tryd.func46, Tryd.ntmps46
    go_wp2_with (first | ((with_reducible refine gate_dst (N := 2) rfl ?_); refine box_event rfl (N := 2) rfl (cs := #[.int .i64 a0_0, .int .i64 a0_1, .float .f64 a0_2, .string a0_3]) (t := 50) gs ?_; intro gb530 hg w21 hbox hb; have BK530 := am (hbox); have GW530 := gw hg HB; have GE530 := gw hg HB; replace HB := sb HB hb; clear hb hbox hg) | ((with_reducible refine gate_dst (N := 3) rfl ?_); refine box_event rfl (N := 3) rfl (cs := #[.int .i64 a1_0, .int .i64 a1_1, .float .f64 a1_2, .string a1_3]) (t := 50) gs ?_; intro gb531 hg w22 hbox hb; have BK531 := am (hbox); have GW531 := gw hg HB; have GE531 := gw hg HB; have NB530_531 := am ((by rw [hg]; exact Nat.ne_of_lt (blk_lt (bk BK530)) : gb530 ≠ gb531)); have NB531_530 := am ((by rw [hg]; exact Nat.ne_of_gt (blk_lt (bk BK530)) : gb531 ≠ gb530)); replace BK530 := kb BK530 hb; replace HB := sb HB hb; clear hb hbox hg; have hnb23 := NB530_531.out; have hnc23 := NB531_530.out; obtain ⟨Z24_0, Z24_1, Z24_2, Z24_3, Y24_0, Y24_1, Y24_2, Y24_3⟩ := bq4 BK530; obtain ⟨Z25_0, Z25_1, Z25_2, Z25_3, Y25_0, Y25_1, Y25_2, Y25_3⟩ := bq4 BK531))
    repeat (go_quiet (fail); try go_wp2_with (first | ((with_reducible refine gate_dst (N := 2) rfl ?_); refine box_event rfl (N := 2) rfl (cs := #[.int .i64 a0_0, .int .i64 a0_1, .float .f64 a0_2, .string a0_3]) (t := 50) gs ?_; intro gb530 hg w21 hbox hb; have BK530 := am (hbox); have GW530 := gw hg HB; have GE530 := gw hg HB; replace HB := sb HB hb; clear hb hbox hg) | ((with_reducible refine gate_dst (N := 3) rfl ?_); refine box_event rfl (N := 3) rfl (cs := #[.int .i64 a1_0, .int .i64 a1_1, .float .f64 a1_2, .string a1_3]) (t := 50) gs ?_; intro gb531 hg w22 hbox hb; have BK531 := am (hbox); have GW531 := gw hg HB; have GE531 := gw hg HB; have NB530_531 := am ((by rw [hg]; exact Nat.ne_of_lt (blk_lt (bk BK530)) : gb530 ≠ gb531)); have NB531_530 := am ((by rw [hg]; exact Nat.ne_of_gt (blk_lt (bk BK530)) : gb531 ≠ gb530)); replace BK530 := kb BK530 hb; replace HB := sb HB hb; clear hb hbox hg; have hnb23 := NB530_531.out; have hnc23 := NB531_530.out; obtain ⟨Z24_0, Z24_1, Z24_2, Z24_3, Y24_0, Y24_1, Y24_2, Y24_3⟩ := bq4 BK530; obtain ⟨Z25_0, Z25_1, Z25_2, Z25_3, Y25_0, Y25_1, Y25_2, Y25_3⟩ := bq4 BK531)))
    go_ret
    exact ⟨er, bl HB⟩
def vellumref01_SameRow.l0 : Nat → List (S50) → List (S50) → Int → Option (Bool)
  | 0, _, _, _ => none
  | k + 1, x0, x1, x5 => if x5 < (x0.length : Int) then (if 0 ≤ x5 then (if x5 < (x1.length : Int) then ((vellumref01_Same.f ((rd_T50 x0 x5).f0) ((rd_T50 x0 x5).f1) ((rd_T50 x0 x5).f2) ((rd_T50 x0 x5).f3) ((rd_T50 x1 x5).f0) ((rd_T50 x1 x5).f1) ((rd_T50 x1 x5).f2) ((rd_T50 x1 x5).f3)).bind fun t534 => (if t534 = true then (vellumref01_SameRow.l0 k x0 x1 (wrap64 (x5 + 1))) else (some false))) else (none)) else (none)) else (some true)
def vellumref01_SameRow.f (k : Nat) (l0 : List (S50)) (l1 : List (S50)) : Option (Bool) := if (l0.length : Int) = (l1.length : Int) then (vellumref01_SameRow.l0 k l0 l1 0) else (some false)
def vellumref01_SameRow.T6 : Bool × List (List Nat × List Nat) := (true, [([], []), ([], []), ([0, 1], [0, 1]), ([2], [2]), ([], []), ([], []), ([4, 5], [4, 5]), ([6], [6]), ([3, 7], [3, 7]), ([8], [8])])
def vellumref01_SameRow.B6 : List Nat := [0, 0, 3, 7, 0, 0, 48, 112, 255, 511]
theorem vellumref01_SameRow.tab6 : rtab .any (opsOf Tryd.f45 6) = vellumref01_SameRow.T6 := by kernel_rfl
theorem vellumref01_SameRow.bits6 : waitsOk vellumref01_SameRow.T6.2 vellumref01_SameRow.B6 = true := by kernel_rfl
set_option maxHeartbeats 8000000 in
set_option maxRecDepth 100000 in
theorem vellumref01_SameRow.calls (k : Nat) (A0 : Option Addr) (c0 : Nat) (l0 : List (S50)) (A1 : Option Addr) (c1 : Nat) (l1 : List (S50)) (r : Bool) (w : World) (hr0 : Kd.C k50 w A0 l0.length l0) (hc0 : l0.length ≤ c0) (hr1 : Kd.C k50 w A1 l1.length l1) (hc1 : l1.length ≤ c1) (h : vellumref01_SameRow.f k l0 l1 = some r) :
    Calls Tryd.prog 45 #[.slice A0 l0.length c0, .slice A1 l1.length c1] w fun e w' => e = .returned (.bool r) ∧ Below w.heap.size w w' := by
  have hu50 := Tryd.underlying50
  have HR0 := am hr0
  have HC0 := am hc0
  clear hr0 hc0
  have HR1 := am hr1
  have HC1 := am hc1
  clear hr1 hc1
  have HB := am (Below.refl w.heap.size w)
  have H : (if (l0.length : Int) = (l1.length : Int) then (vellumref01_SameRow.l0 k l0 l1 0) else (some false)) = some r := h
  clear h
  by_cases c3 : (l0.length : Int) = (l1.length : Int)
  · rw [if_pos c3] at H
    have c3b0 : ((l0.length : Int) == (l1.length : Int)) = true := beq_iff_eq.mpr c3
    have c3b1 : ((l0.length : Int) != (l1.length : Int)) = false := bne_eq_false_iff_eq.mpr c3
    have c3b2 : (l0.length == l1.length) = true := by first | simpa using c3 | (simp at c3 ⊢; omega)
    clear c3
    have H' := am H
    clear H
    go_enter Tryd.func45, Tryd.ntmps45
    go_wp2
    go_loopg [5] k (fun kq v5 w' => ∃ (x5_1 : Int), v5 = .int .i64 x5_1 ∧ Aside0 (vellumref01_SameRow.l0 kq l0 l1 x5_1 = some r) ∧ Aside0 (kq ≤ k) ∧ Aside0 (Below w.heap.size w w'))
    case atStart => exact ⟨(0), eb, H', ⟨Nat.le_refl _⟩, ⟨bl HB⟩⟩
    case round =>
      clear H'
      try clear c1
      try clear p2
      try clear c3
      try clear c3b0
      try clear c3b1
      try clear c3b2
      obtain ⟨x5_1, rfl, HA, HK1, HB⟩ := hrel
      cases gk with
      | zero => exact absurd HA.out (by simp [vellumref01_SameRow.l0])
      | succ k1 =>
        have H := HA.out
        clear HA
        simp only [vellumref01_SameRow.l0] at H
        by_cases c4 : x5_1 < (l0.length : Int)
        · rw [if_pos c4] at H
          have c4b0 : decide (x5_1 < (l0.length : Int)) = true := decide_eq_true c4
          clear c4
          by_cases c5 : 0 ≤ x5_1
          · rw [if_pos c5] at H
            have c5b0 : decide (0 ≤ x5_1) = true := decide_eq_true c5
            clear c5
            by_cases c6 : x5_1 < (l1.length : Int)
            · rw [if_pos c6] at H
              have c6b0 : decide (x5_1 < (l1.length : Int)) = true := decide_eq_true c6
              clear c6
              replace H := Option.bind_eq_some_iff.mp H
              obtain ⟨t534, A70, H⟩ := H
              replace H : (if t534 = true then (vellumref01_SameRow.l0 k1 l0 l1 (wrap64 (x5_1 + 1))) else (some false)) = some r := H
              have A7 := am A70
              clear A70
              by_cases c8 : t534 = true
              · subst c8
                have H1 : (vellumref01_SameRow.l0 k1 l0 l1 (wrap64 (x5_1 + 1))) = some r := by rw [if_pos rfl] at H; exact H
                clear H
                have H := H1
                clear H1
                have H' := am H
                clear H
                try go_wp2
                have n0_ := am (below_drew1 HB.out)
                clear HB
                have HB := n0_
                clear n0_
                have p532 : 0 ≤ (x5_1 : Int) := oda
                have q532 : x5_1 < (l0.length : Int) := oda
                obtain ⟨ad532, e532, hx532_0, hx532_1, hx532_2, hx532_3⟩ := at_T50 HR0.out x5_1 p532 q532
                have hw532_3 := hx532_3
                have hw532_2 := hx532_2
                have hw532_1 := hx532_1
                have hw532_0 := hx532_0
                cases e532
                replace hx532_0 := hc HB hx532_0
                replace hx532_1 := hc HB hx532_1
                replace hx532_2 := hc HB hx532_2
                replace hx532_3 := hc HB hx532_3
                replace p532 := eq_true p532
                replace q532 := eq_true q532
                have p533 : 0 ≤ (x5_1 : Int) := oda
                have q533 : x5_1 < (l1.length : Int) := oda
                obtain ⟨ad533, e533, hx533_0, hx533_1, hx533_2, hx533_3⟩ := at_T50 HR1.out x5_1 p533 q533
                have hw533_3 := hx533_3
                have hw533_2 := hx533_2
                have hw533_1 := hx533_1
                have hw533_0 := hx533_0
                cases e533
                replace hx533_0 := hc HB hx533_0
                replace hx533_1 := hc HB hx533_1
                replace hx533_2 := hc HB hx533_2
                replace hx533_3 := hc HB hx533_3
                replace p533 := eq_true p533
                replace q533 := eq_true q533
                refine start_ (n := 10) (S := fun w' => w'.cell? (ad532.add ((x5_1).toNat * 4)) = some (.int .i64 ((rd_T50 l0 x5_1).f0)) ∧ w'.cell? ⟨(ad532.add ((x5_1).toNat * 4)).block, (ad532.add ((x5_1).toNat * 4)).off + 1, none⟩ = some (.int .i64 ((rd_T50 l0 x5_1).f1)) ∧ w'.cell? ⟨(ad532.add ((x5_1).toNat * 4)).block, (ad532.add ((x5_1).toNat * 4)).off + 2, none⟩ = some (.float .f64 ((rd_T50 l0 x5_1).f2)) ∧ w'.cell? ⟨(ad532.add ((x5_1).toNat * 4)).block, (ad532.add ((x5_1).toNat * 4)).off + 3, none⟩ = some (.string ((rd_T50 l0 x5_1).f3)) ∧ w'.cell? (ad533.add ((x5_1).toNat * 4)) = some (.int .i64 ((rd_T50 l1 x5_1).f0)) ∧ w'.cell? ⟨(ad533.add ((x5_1).toNat * 4)).block, (ad533.add ((x5_1).toNat * 4)).off + 1, none⟩ = some (.int .i64 ((rd_T50 l1 x5_1).f1)) ∧ w'.cell? ⟨(ad533.add ((x5_1).toNat * 4)).block, (ad533.add ((x5_1).toNat * 4)).off + 2, none⟩ = some (.float .f64 ((rd_T50 l1 x5_1).f2)) ∧ w'.cell? ⟨(ad533.add ((x5_1).toNat * 4)).block, (ad533.add ((x5_1).toNat * 4)).off + 3, none⟩ = some (.string ((rd_T50 l1 x5_1).f3))) (ds := []) (bb 0 10) (by kernel_rfl) rfl rfl ⟨(hc HB hw532_0), (hc HB hw532_1), (hc HB hw532_2), (hc HB hw532_3), (hc HB hw533_0), (hc HB hw533_1), (hc HB hw533_2), (hc HB hw533_3)⟩ (fun hHeld => ?_); refine with_tabW vellumref01_SameRow.tab6 vellumref01_SameRow.bits6 (fun HT_ HW_ => ?_)
                generalize wr.drew = w9 at HB hx532_0 hx532_1 hx532_2 hx532_3 hx533_0 hx533_1 hx533_2 hx533_3 hHeld ⊢
                refine pu HT_ 0 (some 17) (bb 1 10) ?_
                refine pu HT_ 1 (some 18) (bb 2 10) ?_
                refine pu HT_ 2 (some 19) (bb 3 10) ?_
                refine pu HT_ 4 (some 21) (bs 10 23) ?_
                refine pu HT_ 5 (some 22) (bs 10 55) ?_
                refine pu HT_ 6 (some 23) (bs 10 119) ?_
                refine tk HT_ HW_ hHeld 3 (some 20) (bb 7 10) ?_
                refine tk HT_ HW_ hHeld 7 (some 24) (bb 8 10) ?_
                refine one_ (i := 8) (N := some 25) (bb 9 10) rfl rfl (one_of HT_.out (by kernel_rfl)) (by decide) (fun K hK => ?_)
                refine goes_ Tryd.func46 (by kernel_rfl) rfl #[.agg #[.int .i64 ((rd_T50 l0 x5_1).f0), .int .i64 ((rd_T50 l0 x5_1).f1), .float .f64 ((rd_T50 l0 x5_1).f2), .string ((rd_T50 l0 x5_1).f3)], .agg #[.int .i64 ((rd_T50 l1 x5_1).f0), .int .i64 ((rd_T50 l1 x5_1).f1), .float .f64 ((rd_T50 l1 x5_1).f2), .string ((rd_T50 l1 x5_1).f3)]] (by rfl) rfl rfl ar ?_
                with_reducible refine (vellumref01_Same.calls ((rd_T50 l0 x5_1).f0) ((rd_T50 l0 x5_1).f1) ((rd_T50 l0 x5_1).f2) ((rd_T50 l0 x5_1).f3) ((rd_T50 l1 x5_1).f0) ((rd_T50 l1 x5_1).f1) ((rd_T50 l1 x5_1).f2) ((rd_T50 l1 x5_1).f3) true _ A7.out).mono ?_
                rintro e w10 ⟨rfl, hb⟩
                refine ⟨_, rfl, ?_⟩
                have n0_ := sb HB hb
                clear HB
                have HB := n0_
                clear n0_
                (try clear hb)
                (try clear hb2)
                (try clear hk)
                (try clear hi)
                refine hK.out _ _ ⟨(hc HB hw532_0), (hc HB hw532_1), (hc HB hw532_2), (hc HB hw532_3), (hc HB hw533_0), (hc HB hw533_1), (hc HB hw533_2), (hc HB hw533_3)⟩ (fun hHeld => ?_)
                clear hK K
                refine norm_ (a' := ?_) ?_ ?_
                rotate_left
                · show Act.put _ (some 25) _ = _
                  simp only [Act.put, List.setIfInBounds_toArray, List.set_cons_zero, List.set_cons_succ, i64_w, i32_w]
                  rfl
                refine pu HT_ 9 (some 26) (bb 10 10) ?_
                refine done_ (done_of HT_.out (by kernel_rfl)) ?_
                try go_wp2
                go_roundg k1
                case measure => have := HK1.out; omega
                case rel => exact ⟨(wrap64 (x5_1 + 1)), eb, H', ⟨by have := HK1.out; omega⟩, ⟨bl HB⟩⟩
              · replace c8 := Bool.eq_false_iff.mpr c8
                subst c8
                have H1 : (some false) = some r := by rw [if_neg (show ¬ (false = true) by decide)] at H; exact H
                clear H
                have H := H1
                clear H1
                obtain rfl := Option.some.inj H
                try go_wp2
                have n0_ := am (below_drew1 HB.out)
                clear HB
                have HB := n0_
                clear n0_
                have p532 : 0 ≤ (x5_1 : Int) := oda
                have q532 : x5_1 < (l0.length : Int) := oda
                obtain ⟨ad532, e532, hx532_0, hx532_1, hx532_2, hx532_3⟩ := at_T50 HR0.out x5_1 p532 q532
                have hw532_3 := hx532_3
                have hw532_2 := hx532_2
                have hw532_1 := hx532_1
                have hw532_0 := hx532_0
                cases e532
                replace hx532_0 := hc HB hx532_0
                replace hx532_1 := hc HB hx532_1
                replace hx532_2 := hc HB hx532_2
                replace hx532_3 := hc HB hx532_3
                replace p532 := eq_true p532
                replace q532 := eq_true q532
                have p533 : 0 ≤ (x5_1 : Int) := oda
                have q533 : x5_1 < (l1.length : Int) := oda
                obtain ⟨ad533, e533, hx533_0, hx533_1, hx533_2, hx533_3⟩ := at_T50 HR1.out x5_1 p533 q533
                have hw533_3 := hx533_3
                have hw533_2 := hx533_2
                have hw533_1 := hx533_1
                have hw533_0 := hx533_0
                cases e533
                replace hx533_0 := hc HB hx533_0
                replace hx533_1 := hc HB hx533_1
                replace hx533_2 := hc HB hx533_2
                replace hx533_3 := hc HB hx533_3
                replace p533 := eq_true p533
                replace q533 := eq_true q533
                refine start_ (n := 10) (S := fun w' => w'.cell? (ad532.add ((x5_1).toNat * 4)) = some (.int .i64 ((rd_T50 l0 x5_1).f0)) ∧ w'.cell? ⟨(ad532.add ((x5_1).toNat * 4)).block, (ad532.add ((x5_1).toNat * 4)).off + 1, none⟩ = some (.int .i64 ((rd_T50 l0 x5_1).f1)) ∧ w'.cell? ⟨(ad532.add ((x5_1).toNat * 4)).block, (ad532.add ((x5_1).toNat * 4)).off + 2, none⟩ = some (.float .f64 ((rd_T50 l0 x5_1).f2)) ∧ w'.cell? ⟨(ad532.add ((x5_1).toNat * 4)).block, (ad532.add ((x5_1).toNat * 4)).off + 3, none⟩ = some (.string ((rd_T50 l0 x5_1).f3)) ∧ w'.cell? (ad533.add ((x5_1).toNat * 4)) = some (.int .i64 ((rd_T50 l1 x5_1).f0)) ∧ w'.cell? ⟨(ad533.add ((x5_1).toNat * 4)).block, (ad533.add ((x5_1).toNat * 4)).off + 1, none⟩ = some (.int .i64 ((rd_T50 l1 x5_1).f1)) ∧ w'.cell? ⟨(ad533.add ((x5_1).toNat * 4)).block, (ad533.add ((x5_1).toNat * 4)).off + 2, none⟩ = some (.float .f64 ((rd_T50 l1 x5_1).f2)) ∧ w'.cell? ⟨(ad533.add ((x5_1).toNat * 4)).block, (ad533.add ((x5_1).toNat * 4)).off + 3, none⟩ = some (.string ((rd_T50 l1 x5_1).f3))) (ds := []) (bb 0 10) (by kernel_rfl) rfl rfl ⟨(hc HB hw532_0), (hc HB hw532_1), (hc HB hw532_2), (hc HB hw532_3), (hc HB hw533_0), (hc HB hw533_1), (hc HB hw533_2), (hc HB hw533_3)⟩ (fun hHeld => ?_); refine with_tabW vellumref01_SameRow.tab6 vellumref01_SameRow.bits6 (fun HT_ HW_ => ?_)
                generalize wr.drew = w11 at HB hx532_0 hx532_1 hx532_2 hx532_3 hx533_0 hx533_1 hx533_2 hx533_3 hHeld ⊢
                refine pu HT_ 0 (some 17) (bb 1 10) ?_
                refine pu HT_ 1 (some 18) (bb 2 10) ?_
                refine pu HT_ 2 (some 19) (bb 3 10) ?_
                refine pu HT_ 4 (some 21) (bs 10 23) ?_
                refine pu HT_ 5 (some 22) (bs 10 55) ?_
                refine pu HT_ 6 (some 23) (bs 10 119) ?_
                refine tk HT_ HW_ hHeld 3 (some 20) (bb 7 10) ?_
                refine tk HT_ HW_ hHeld 7 (some 24) (bb 8 10) ?_
                refine one_ (i := 8) (N := some 25) (bb 9 10) rfl rfl (one_of HT_.out (by kernel_rfl)) (by decide) (fun K hK => ?_)
                refine goes_ Tryd.func46 (by kernel_rfl) rfl #[.agg #[.int .i64 ((rd_T50 l0 x5_1).f0), .int .i64 ((rd_T50 l0 x5_1).f1), .float .f64 ((rd_T50 l0 x5_1).f2), .string ((rd_T50 l0 x5_1).f3)], .agg #[.int .i64 ((rd_T50 l1 x5_1).f0), .int .i64 ((rd_T50 l1 x5_1).f1), .float .f64 ((rd_T50 l1 x5_1).f2), .string ((rd_T50 l1 x5_1).f3)]] (by rfl) rfl rfl ar ?_
                with_reducible refine (vellumref01_Same.calls ((rd_T50 l0 x5_1).f0) ((rd_T50 l0 x5_1).f1) ((rd_T50 l0 x5_1).f2) ((rd_T50 l0 x5_1).f3) ((rd_T50 l1 x5_1).f0) ((rd_T50 l1 x5_1).f1) ((rd_T50 l1 x5_1).f2) ((rd_T50 l1 x5_1).f3) false _ A7.out).mono ?_
                rintro e w12 ⟨rfl, hb⟩
                refine ⟨_, rfl, ?_⟩
                have n0_ := sb HB hb
                clear HB
                have HB := n0_
                clear n0_
                (try clear hb)
                (try clear hb2)
                (try clear hk)
                (try clear hi)
                refine hK.out _ _ ⟨(hc HB hw532_0), (hc HB hw532_1), (hc HB hw532_2), (hc HB hw532_3), (hc HB hw533_0), (hc HB hw533_1), (hc HB hw533_2), (hc HB hw533_3)⟩ (fun hHeld => ?_)
                clear hK K
                refine norm_ (a' := ?_) ?_ ?_
                rotate_left
                · show Act.put _ (some 25) _ = _
                  simp only [Act.put, List.setIfInBounds_toArray, List.set_cons_zero, List.set_cons_succ, i64_w, i32_w]
                  rfl
                refine pu HT_ 9 (some 26) (bb 10 10) ?_
                refine done_ (done_of HT_.out (by kernel_rfl)) ?_
                try go_wp2
                go_ret
                exact ⟨er, bl HB⟩
            · rw [if_neg c6] at H
              exact absurd H (by simp)
          · rw [if_neg c5] at H
            exact absurd H (by simp)
        · rw [if_neg c4] at H
          have c4b0 : decide (x5_1 < (l0.length : Int)) = false := decide_eq_false c4
          clear c4
          obtain rfl := Option.some.inj H
          go_wp2
          go_ret
          exact ⟨er, bl HB⟩
  · rw [if_neg c3] at H
    have c3b0 : ((l0.length : Int) == (l1.length : Int)) = false := beq_eq_false_iff_ne.mpr c3
    have c3b1 : ((l0.length : Int) != (l1.length : Int)) = true := bne_iff_ne.mpr c3
    have c3b2 : (l0.length == l1.length) = false := by first | simpa using c3 | (simp at c3 ⊢; omega)
    obtain rfl := Option.some.inj H
    go_enter Tryd.func45, Tryd.ntmps45
    go_wp2
    go_ret
    exact ⟨er, bl HB⟩
end Go.Proofs.YtpiifdbicibelaaDoor.PA
end
section
namespace Go.Proofs.YtpiifdbicibelaaDoor.Pure
open Go.RowKit Go.Proofs Go.Proofs.YtpiifdbicibelaaDoorW.PrintWords Go.Proofs.YtpiifdbicibelaaDoorW.PrintLast Go.Proofs.YtpiifdbicibelaaDoorW.PrintMore Go.Proofs.YtpiifdbicibelaaDoor.PA Go.Proofs.YtpiifdbicibelaaDoor.OpenK
set_option linter.unusedVariables false
theorem order_self (d e : Ieee.Datum) (h : d.order e ≠ none) : d.order d = some .eq := by
  cases d with
  | nan => simp [Ieee.Datum.order] at h
  | infinity s => simp [Ieee.Datum.order]
  | number s m i => simp [Ieee.Datum.order]
theorem feq_self {a b : Nat} (h : feq a b = true) : feq a a = true := by
  unfold feq Ieee.Format.order at *
  have h' := beq_iff_eq.1 h
  rw [order_self _ _ (by rw [h']; simp)]
  rfl
theorem feq_zero : feq 0 0 = true := by decide +kernel
theorem plain_ev (k : Nat) (a b : Int) (c : Nat) (d : ByteArray) : value_Plain.f (k + 1) a b c d = some (a, b, if a = 3 then plainF c else c, d) := by
  unfold value_Plain.f plainF
  by_cases h : a = 3
  · simp only [h, if_true, value_Plain.j0, math_IsNaN.f, Option.bind_some, feq_zero]
    by_cases h0 : feq c 0 = true
    · simp [h0]
    · by_cases h1 : feq c c = true <;> simp [h0, h1]
  · simp [h]
theorem plainF_lt {c : Nat} (h : c < 18446744073709551616) : plainF c < 18446744073709551616 := by
  unfold plainF; split
  · omega
  · split <;> omega
theorem putFloat_ev (l : List Int) (b : Nat) (hb : b < 18446744073709551616) (hl : l.length + 10 < 140737488355328) : Ev (fun k => code_putFloat.f k l b) (l ++ codeBits b) := by
  simp only [code_putFloat.f, codeBits]
  by_cases h : b < 9223372036854775808
  · rw [if_pos h]
    refine Ev.pos (by omega) ?_
    rw [or_top _ (by omega) (by omega)]
    exact Ev.bind (high_ev _ 8 l (by omega) (by omega)) Ev.pure
  · rw [if_neg h]
    refine Ev.neg (by omega) ?_
    rw [not64_eq _ (by omega) (by omega)]
    exact Ev.bind (high_ev _ 8 l (by omega) (by omega)) Ev.pure
theorem real_ev (c : Nat) (hc : c < 18446744073709551616) : Ev (fun k => vellumref02_real.f k c) (codeBits (plainF c)) := by
  have h1 : ∀ b : Nat, b < 18446744073709551616 → Ev (fun k => vellumref02_real.j1 k (b : Int)) (codeBits b) := by
    intro b hb
    unfold codeBits
    by_cases h : b < 9223372036854775808
    · rw [if_pos h]
      refine Ev.step (g := fun k => (vellumref02_big.f k ((b : Int) + 9223372036854775808) 8).bind fun t => some t) (fun k => ?_) (Ev.bind (big_ev _ 8 (by omega)) Ev.pure)
      simp only [vellumref02_real.j1]
      rw [if_pos (by omega), xor_top _ (by omega) (by omega)]
    · rw [if_neg h]
      refine Ev.step (g := fun k => (vellumref02_big.f k (18446744073709551615 - (b : Int)) 8).bind fun t => some t) (fun k => ?_) (Ev.bind (big_ev _ 8 (by omega)) Ev.pure)
      simp only [vellumref02_real.j1]
      rw [if_neg (by omega), not64_eq _ (by omega) (by omega)]
  simp only [vellumref02_real.f, plainF]
  by_cases h0 : feq c 0 = true
  · refine Ev.pos h0 ?_
    rw [if_pos h0]
    refine Ev.step (g := fun k => vellumref02_real.j1 k ((0 : Nat) : Int)) (fun k => ?_) (h1 0 (by omega))
    simp only [vellumref02_real.j0]
    rw [if_pos (feq_self h0)]
    rfl
  · refine Ev.neg h0 ?_
    rw [if_neg h0]
    by_cases hn : feq c c = true
    · rw [if_pos hn]
      refine Ev.step (g := fun k => vellumref02_real.j1 k (c : Int)) (fun k => ?_) (h1 c hc)
      simp only [vellumref02_real.j0]
      rw [if_pos hn]
    · rw [if_neg hn]
      refine Ev.step (g := fun k => vellumref02_real.j1 k ((9221120237041090560 : Nat) : Int)) (fun k => ?_) (h1 _ (by omega))
      simp only [vellumref02_real.j0]
      rw [if_neg hn]
      rfl
theorem index_cons (b : UInt8) (l : List UInt8) : Lib.index (b :: l) [0] = if b = 0 then 0 else if Lib.index l [0] = -1 then -1 else Lib.index l [0] + 1 := by
  rw [Lib.index]
  by_cases h : b = 0
  · subst h; simp [List.isPrefixOf]
  · have : (0 : UInt8) ≠ b := fun e => h e.symm
    simp [List.isPrefixOf, h, this]
def zeroed (l : List UInt8) : List UInt8 := l.flatMap fun b => if b = 0 then [0, 255] else [b]
theorem replaceK_zero : ∀ (l : List UInt8) (k : Nat), l.count 0 ≤ k → Lib.replaceK [0] [0, 255] k l = zeroed l
  | [], k, _ => by
    cases k with
    | zero => rfl
    | succ k => simp [Lib.replaceK, Lib.index, zeroed]
  | b :: l, k, hk => by
    by_cases h : b = 0
    · subst h
      simp only [List.count_cons_self] at hk
      obtain ⟨k, rfl⟩ : ∃ j, k = j + 1 := ⟨k - 1, by omega⟩
      have ih := replaceK_zero l k (by omega)
      simp [Lib.replaceK, index_cons, zeroed, ih]
    · rw [List.count_cons_of_ne (by simpa using h)] at hk
      have ih := replaceK_zero l k hk
      have key : Lib.replaceK [0] [0, 255] k (b :: l) = b :: Lib.replaceK [0] [0, 255] k l := by
        cases k with
        | zero => rfl
        | succ k =>
          have hge := Lib.index_ge l [0]
          simp only [Lib.replaceK, index_cons, if_neg h]
          by_cases hm : Lib.index l [0] = -1
          · simp [hm]
          · have e1 : (Lib.index l [0] + 1).toNat = (Lib.index l [0]).toNat + 1 := by omega
            have e2 : ¬ (Lib.index l [0] + 1 = -1) := by omega
            simp [hm, e1, e2]
      rw [key, ih]
      simp [zeroed, h]
theorem replaceAll_zero (s : List UInt8) : Lib.replaceAll s [0] [0, 255] = zeroed s := by
  unfold Lib.replaceAll Lib.replace Lib.replaceNum
  rw [if_neg (by decide), if_pos (by omega)]
  exact replaceK_zero s _ (by rw [Lib.count_one]; exact Nat.le_refl _)
theorem codeText_zeroed : ∀ l : List UInt8, codeText l = (zeroed l).map (fun b => (b.toNat : Int)) ++ [0]
  | [] => rfl
  | b :: l => by
    have := codeText_zeroed l
    unfold codeText
    by_cases h : b = 0
    · subst h
      simp [zeroed] at this ⊢
      exact this
    · simp [zeroed, h] at this ⊢
      exact this
theorem zeroed_length (l : List UInt8) : (zeroed l).length ≤ 2 * l.length := by
  have h1 := codeText_length l
  have h2 := congrArg List.length (codeText_zeroed l)
  simp at h2
  omega
theorem putString_f (l : List Int) (s : ByteArray) (hs : s.size ≤ 65536) (hl : l.length + 140000 < 140737488355328) : code_putString.f l s = some (l ++ codeText s.data.toList) := by
  have hc := Lib.countB_le (⟨#[0]⟩ : ByteArray) (by decide) s.size s (Nat.le_refl _)
  have hr : strings_ReplaceAll.f s (⟨#[0]⟩ : ByteArray) (⟨#[0, 255]⟩ : ByteArray) = some ⟨(zeroed s.data.toList).toArray⟩ := by
    unfold strings_ReplaceAll.f
    have e2 : (⟨#[0, 255]⟩ : ByteArray).size = 2 := rfl
    have e1 : (⟨#[0]⟩ : ByteArray).size = 1 := rfl
    rw [if_pos ⟨by omega, by rw [e1]; omega, by rw [e2]; omega⟩, replaceAll_zero]
  have hz := zeroed_length s.data.toList
  rw [data_length] at hz
  have hsz : (⟨(zeroed s.data.toList).toArray⟩ : ByteArray).size = (zeroed s.data.toList).length := by
    show (zeroed s.data.toList).toArray.size = _
    simp
  have hbl := bytesOf_length ⟨(zeroed s.data.toList).toArray⟩
  unfold code_putString.f
  rw [hr]
  simp only [Option.bind_some]
  rw [if_pos (by omega), if_pos (by simp; omega), codeText_zeroed]
  simp [bytesOf]
theorem ended_ev (s : ByteArray) (hs : s.size ≤ 65536) : Ev (fun k => vellumref02_ended.f k s) (codeText s.data.toList) := by
  have go : ∀ (m : Nat) (i : Nat) (l : List Int), i + m = s.size → l.length ≤ 2 * i → Ev (fun k => vellumref02_ended.l0 k s l (i : Int)) (l ++ codeText (s.data.toList.drop i)) := by
    intro m
    induction m with
    | zero =>
      intro i l hi hl
      refine Ev.from_ 1 fun k => ?_
      simp only [vellumref02_ended.l0]
      rw [if_neg (by omega), if_pos (by omega), List.drop_of_length_le (by rw [data_length]; omega)]
      rfl
    | succ m ih =>
      intro i l hi hl
      have hlt : i < s.data.toList.length := by rw [data_length]; omega
      have hb : bt s i = ((s.data.toList[i]'hlt).toNat : Int) := by
        unfold bt
        simp only [Int.toNat_natCast]
        rw [dif_pos (by omega)]
        rfl
      rw [List.drop_eq_getElem_cons hlt]
      generalize s.data.toList[i]'hlt = b at hb
      have hiff : (bt s i = 0) ↔ b = 0 := by
        rw [hb]
        constructor
        · intro h
          have : b.toNat = 0 := by omega
          exact UInt8.toNat_inj.1 this
        · intro h; subst h; rfl
      by_cases h0 : b = 0
      · refine Ev.step (g := fun k => vellumref02_ended.l0 k s (l ++ [0] ++ [255]) ((i + 1 : Nat) : Int)) (fun k => ?_) ?_
        · have := hiff.2 h0
          simp only [vellumref02_ended.l0, Option.bind_some]
          rw [if_pos (by omega), if_pos (by omega), if_pos (by omega), this, if_pos rfl, if_pos (by simp; omega), wrap64_id (by omega) (by omega)]
          rfl
        · have := ih (i + 1) (l ++ [0] ++ [255]) (by omega) (by simp; omega)
          subst h0
          simpa [codeText] using this
      · refine Ev.step (g := fun k => vellumref02_ended.l0 k s (l ++ [(b.toNat : Int)]) ((i + 1 : Nat) : Int)) (fun k => ?_) ?_
        · have : ¬ bt s i = 0 := fun h => h0 (hiff.1 h)
          simp only [vellumref02_ended.l0, Option.bind_some]
          rw [if_pos (by omega), if_pos (by omega), if_pos (by omega), if_neg this, hb, wrap64_id (by omega) (by omega)]
          rfl
        · have := ih (i + 1) (l ++ [(b.toNat : Int)]) (by omega) (by simp; omega)
          simpa [codeText, h0] using this
  have := go s.size 0 [] (by omega) (by simp)
  simpa [vellumref02_ended.f] using this
def codeV (a b : Int) (c : Nat) (d : ByteArray) : List Int :=
  if a = 1 then [2, b % 256] else if a = 2 then 3 :: codeInt b else if a = 3 then 4 :: codeBits (plainF c) else if a = 4 then 5 :: codeText d.data.toList else if a = 5 then 6 :: codeText d.data.toList else [1]
theorem codeBits_length (b : Nat) : (codeBits b).length = 8 := by unfold codeBits; split <;> exact be_length _ _
theorem codeV_length (a b : Int) (c : Nat) (d : ByteArray) (hb : (Lit.int .i64 b).wf = true) (hd : d.size ≤ 65536) : (codeV a b c d).length ≤ 131074 := by
  have h1 := codeInt_length b hb
  have h2 := codeText_length d.data.toList
  have h3 := codeBits_length (plainF c)
  rw [data_length] at h2
  unfold codeV
  repeat' split
  all_goals (simp only [List.length_cons, List.length_nil]; omega)
theorem put_ev (l : List Int) (a b : Int) (c : Nat) (d : ByteArray) (hb : (Lit.int .i64 b).wf = true) (hc : c < 18446744073709551616) (hd : d.size ≤ 65536) (hl : l.length + 200000 < 140737488355328) :
    Ev (fun k => code_put.f k l a b c d) (l ++ codeV a b c d) := by
  simp only [code_put.f, codeV, Option.bind_some]
  by_cases h1 : a = 1
  · rw [if_pos h1]
    exact Ev.pos h1 (Ev.pos (by simp; omega) Ev.pure)
  rw [if_neg h1]
  refine Ev.neg h1 ?_
  by_cases h2 : a = 2
  · rw [if_pos h2]
    refine Ev.pos h2 (Ev.pos (by omega) (Ev.bind (putInt_ev (l ++ [3]) b hb (by simp; omega)) ?_))
    simpa using Ev.pure
  rw [if_neg h2]
  refine Ev.neg h2 ?_
  by_cases h3 : a = 3
  · rw [if_pos h3]
    refine Ev.pos h3 (Ev.pos (by omega) (Ev.bind (v := (a, b, plainF c, d)) (Ev.from_ 1 fun k => by rw [plain_ev, if_pos h3]) (Ev.bind (putFloat_ev (l ++ [4]) (plainF c) (plainF_lt hc) (by simp; omega)) ?_)))
    simpa using Ev.pure
  rw [if_neg h3]
  refine Ev.neg h3 ?_
  by_cases h4 : a = 4
  · rw [if_pos h4, if_pos h4]
    refine Ev.pos (by omega) (Ev.const ?_)
    rw [putString_f _ d hd (by simp; omega)]
    simp
  rw [if_neg h4, if_neg h4]
  by_cases h5 : a = 5
  · rw [if_pos h5, if_pos h5]
    refine Ev.pos (by omega) (Ev.const ?_)
    rw [putString_f _ d hd (by simp; omega)]
    simp
  rw [if_neg h5, if_neg h5]
  exact Ev.pos (by omega) Ev.pure
theorem code_ev (a b : Int) (c : Nat) (d : ByteArray) (ha : 0 ≤ a ∧ a ≤ 5) (hb : (Lit.int .i64 b).wf = true) (hc : c < 18446744073709551616) (hd : d.size ≤ 65536) :
    Ev (fun k => vellumref02_code.f k a b c d) (codeV a b c d) := by
  have e : (wrap64 (a + 1)) % 256 = a + 1 := by rw [wrap64_id (by omega) (by omega)]; omega
  have hI := codeInt_length b hb
  have hT := codeText_length d.data.toList
  rw [data_length] at hT
  have hF := codeBits_length (plainF c)
  simp only [vellumref02_code.f, codeV, Option.bind_some, e]
  by_cases h1 : a = 1
  · rw [if_pos h1]
    refine Ev.pos h1 (Ev.pos (by simp) ?_)
    subst h1
    exact Ev.pure
  rw [if_neg h1]
  refine Ev.neg h1 ?_
  by_cases h2 : a = 2
  · rw [if_pos h2]
    refine Ev.pos h2 (Ev.bind (whole_ev b hb) (Ev.pos (by simp; omega) ?_))
    subst h2
    exact Ev.pure
  rw [if_neg h2]
  refine Ev.neg h2 ?_
  by_cases h3 : a = 3
  · rw [if_pos h3]
    refine Ev.pos h3 (Ev.bind (real_ev c hc) (Ev.pos (by simp; omega) ?_))
    subst h3
    exact Ev.pure
  rw [if_neg h3]
  refine Ev.neg h3 ?_
  by_cases h4 : a = 4
  · rw [if_pos h4]
    refine Ev.pos h4 (Ev.bind (ended_ev d hd) (Ev.pos (by simp; omega) ?_))
    subst h4
    exact Ev.pure
  rw [if_neg h4]
  refine Ev.neg h4 ?_
  by_cases h5 : a = 5
  · rw [if_pos h5]
    refine Ev.pos h5 (Ev.bind (ended_ev d hd) (Ev.pos (by simp; omega) ?_))
    subst h5
    exact Ev.pure
  rw [if_neg h5]
  refine Ev.neg h5 ?_
  obtain rfl : a = 0 := by omega
  exact Ev.pure
/-- What a list of values is coded as_: its bytes and the outcome. -/
def chkV (x : S50) : Int := chk x.f0 x.f1 x.f2 x.f3
def codeOf (x : S50) : List Int := codeV x.f0 x.f1 x.f2 x.f3
/-- The code so far, or 'too long'. -/
def build : List Int → List S50 → Option (List Int)
  | acc, [] => some acc
  | acc, x :: xs => if 1024 < (acc ++ codeOf x).length then none else build (acc ++ codeOf x) xs
def encode (xs : List S50) : ByteArray × Int :=
  if xs.all (fun x => chkV x == 0) then (match build [] xs with | none => (⟨#[]⟩, 3) | some l => (strOfNums l, 0)) else (⟨#[]⟩, 10)
theorem rd_get (l : List S50) (i : Nat) (x : S50) (h : l[i]? = some x) : rd_T50 l (i : Int) = x := by
  unfold rd_T50
  simp [List.getD, h]
theorem chk_ok {a b : Int} {c : Nat} {d : ByteArray} (h : chk a b c d = 0) : (0 ≤ a ∧ a ≤ 5) ∧ d.size ≤ 65536 := by
  unfold chk at h
  split at h
  · cases h
  · rename_i h1
    split at h
    · cases h
    · rename_i h2
      have : ¬ a < 0 := fun x => h1 (Or.inl x)
      have : ¬ 5 < a := fun x => h1 (Or.inr (Or.inl x))
      constructor
      · omega
      · omega
theorem encode_code (xs : List S50) (hw : ∀ x ∈ xs, wf50 x) (hl : xs.length < 9223372036854775807) : Ev (fun k => code_Encode.f k xs) (encode xs) := by
  have build_ev : ∀ (m i : Nat) (acc : List Int), i + m = xs.length → acc.length ≤ 1024 → (∀ x ∈ xs, chkV x = 0) →
      Ev (fun k => code_Encode.l1 k acc xs (xs.length : Int) (i : Int)) (match build acc (xs.drop i) with | none => (⟨#[]⟩, 3) | some l => (strOfNums l, 0)) := by
    intro m
    induction m with
    | zero =>
      intro i acc hi ha hc
      rw [List.drop_of_length_le (by omega)]
      refine Ev.from_ 1 fun k => ?_
      simp only [code_Encode.l1, build]
      rw [if_neg (by omega)]
    | succ m ih =>
      intro i acc hi ha hc
      have hlt : i < xs.length := by omega
      obtain ⟨x, hx⟩ : ∃ x, xs[i]? = some x := ⟨_, List.getElem?_eq_getElem hlt⟩
      have hmem : x ∈ xs := List.mem_of_getElem? hx
      have hd : xs.drop i = x :: xs.drop (i + 1) := by
        rw [List.drop_eq_getElem_cons hlt]
        congr 1
        exact Option.some.inj ((List.getElem?_eq_getElem hlt).symm.trans hx)
      have hok := chk_ok (hc x hmem)
      obtain ⟨w0, w1, w2, w3⟩ := hw x hmem
      refine Ev.step (g := fun k => (code_put.f k acc x.f0 x.f1 x.f2 x.f3).bind fun t181 => (if (t181.length : Int) > 1024 then (some ((⟨#[]⟩ : ByteArray), 3)) else (code_Encode.l1 k t181 xs (xs.length : Int) ((i + 1 : Nat) : Int)))) (fun k => ?_) ?_
      · simp only [code_Encode.l1]
        rw [if_pos (by omega), if_pos (by omega), if_pos (by omega), rd_get _ _ _ hx, wrap64_id (by omega) (by omega)]
        rfl
      · refine Ev.bind (put_ev acc _ _ _ _ w1 w2 hok.2 (by omega)) ?_
        rw [hd]
        by_cases hlen : 1024 < (acc ++ codeOf x).length
        · refine Ev.pos (by show ((acc ++ codeOf x).length : Int) > 1024; omega) ?_
          simp only [build]
          rw [if_pos hlen]
          exact Ev.pure
        · refine Ev.neg (by show ¬ ((acc ++ codeOf x).length : Int) > 1024; omega) ?_
          simp only [build]
          rw [if_neg hlen]
          exact ih (i + 1) (acc ++ codeOf x) (by omega) (by omega) hc
  have check_ev : ∀ (m i : Nat), i + m = xs.length → (∀ j x, j < i → xs[j]? = some x → chkV x = 0) → Ev (fun k => code_Encode.l0 k xs xs (xs.length : Int) (i : Int)) (encode xs) := by
    intro m
    induction m with
    | zero =>
      intro i hi hc
      have hall : ∀ x ∈ xs, chkV x = 0 := fun x hx => by
        obtain ⟨j, hj⟩ := List.getElem?_of_mem hx
        exact hc j x (by have := (List.getElem?_eq_some_iff.1 hj).1; omega) hj
      refine Ev.step (g := fun k => code_Encode.l1 k ([] : List Int) xs (xs.length : Int) ((0 : Nat) : Int)) (fun k => ?_) ?_
      · simp only [code_Encode.l0]
        rw [if_neg (by omega)]
        rfl
      · have := build_ev xs.length 0 [] (by omega) (by simp) hall
        have e : xs.all (fun x => chkV x == 0) = true := List.all_eq_true.2 fun x hx => by simp [hall x hx]
        unfold encode
        rw [if_pos e]
        simpa using this
    | succ m ih =>
      intro i hi hc
      have hlt : i < xs.length := by omega
      obtain ⟨x, hx⟩ : ∃ x, xs[i]? = some x := ⟨_, List.getElem?_eq_getElem hlt⟩
      have hmem : x ∈ xs := List.mem_of_getElem? hx
      obtain ⟨w0, w1, w2, w3⟩ := hw x hmem
      refine Ev.step (g := fun k => (value_Check.f k x.f0 x.f1 x.f2 x.f3).bind fun t178 => (if t178 = 0 then (code_Encode.l0 k xs xs (xs.length : Int) ((i + 1 : Nat) : Int)) else (some ((⟨#[]⟩ : ByteArray), 10)))) (fun k => ?_) ?_
      · simp only [code_Encode.l0]
        rw [if_pos (by omega), if_pos (by omega), if_pos (by omega), rd_get _ _ _ hx, wrap64_id (by omega) (by omega)]
        rfl
      · refine Ev.bind (Ev.from_ 6 fun k => check_code k _ _ _ _ w3) ?_
        by_cases h0 : chkV x = 0
        · refine Ev.pos h0 (ih (i + 1) (by omega) fun j y hj hy => ?_)
          rcases Nat.lt_or_ge j i with h | h
          · exact hc j y h hy
          · obtain rfl : j = i := by omega
            rw [hx] at hy; cases hy; exact h0
        · refine Ev.neg h0 ?_
          have e : ¬ xs.all (fun x => chkV x == 0) = true := fun h => h0 (by simpa using List.all_eq_true.1 h x hmem)
          unfold encode
          rw [if_neg e]
          exact Ev.pure
  have := check_ev xs.length 0 (by omega) (fun j x hj => by omega)
  simpa [code_Encode.f] using this
theorem encode_ref (xs : List S50) (hw : ∀ x ∈ xs, wf50 x) (hl : xs.length < 9223372036854775807) : Ev (fun k => vellumref02_Encode.f k xs) (encode xs) := by
  have build_ev : ∀ (m i : Nat) (acc : List Int), i + m = xs.length → acc.length ≤ 1024 → (∀ x ∈ xs, chkV x = 0) →
      Ev (fun k => vellumref02_Encode.l1 k xs acc (i : Int)) (match build acc (xs.drop i) with | none => (⟨#[]⟩, 3) | some l => (strOfNums l, 0)) := by
    intro m
    induction m with
    | zero =>
      intro i acc hi ha hc
      rw [List.drop_of_length_le (by omega)]
      refine Ev.from_ 1 fun k => ?_
      simp only [vellumref02_Encode.l1, build]
      rw [if_neg (by omega)]
    | succ m ih =>
      intro i acc hi ha hc
      have hlt : i < xs.length := by omega
      obtain ⟨x, hx⟩ : ∃ x, xs[i]? = some x := ⟨_, List.getElem?_eq_getElem hlt⟩
      have hmem : x ∈ xs := List.mem_of_getElem? hx
      have hd : xs.drop i = x :: xs.drop (i + 1) := by
        rw [List.drop_eq_getElem_cons hlt]
        congr 1
        exact Option.some.inj ((List.getElem?_eq_getElem hlt).symm.trans hx)
      have hok := chk_ok (hc x hmem)
      obtain ⟨w0, w1, w2, w3⟩ := hw x hmem
      have hcl := codeV_length x.f0 x.f1 x.f2 x.f3 w1 hok.2
      refine Ev.step (g := fun k => (vellumref02_code.f k x.f0 x.f1 x.f2 x.f3).bind fun t267 => (if acc.length + t267.length < 140737488355328 then ((some (acc ++ t267 : List Int)).bind fun y270 => (if (y270.length : Int) > 1024 then (some ((⟨#[]⟩ : ByteArray), 3)) else (vellumref02_Encode.l1 k xs y270 ((i + 1 : Nat) : Int)))) else (none))) (fun k => ?_) ?_
      · simp only [vellumref02_Encode.l1]
        rw [if_pos (by omega), if_pos (by omega), rd_get _ _ _ hx, wrap64_id (by omega) (by omega)]
        rfl
      · refine Ev.bind (code_ev _ _ _ _ hok.1 w1 w2 hok.2) ?_
        rw [hd]
        refine Ev.pos (by omega) ?_
        simp only [Option.bind_some]
        by_cases hlen : 1024 < (acc ++ codeOf x).length
        · refine Ev.pos (by show ((acc ++ codeOf x).length : Int) > 1024; omega) ?_
          simp only [build]
          rw [if_pos hlen]
          exact Ev.pure
        · refine Ev.neg (by show ¬ ((acc ++ codeOf x).length : Int) > 1024; omega) ?_
          simp only [build]
          rw [if_neg hlen]
          exact ih (i + 1) (acc ++ codeOf x) (by omega) (by omega) hc
  have check_ev : ∀ (m i : Nat), i + m = xs.length → (∀ j x, j < i → xs[j]? = some x → chkV x = 0) → Ev (fun k => vellumref02_Encode.l0 k xs (i : Int)) (encode xs) := by
    intro m
    induction m with
    | zero =>
      intro i hi hc
      have hall : ∀ x ∈ xs, chkV x = 0 := fun x hx => by
        obtain ⟨j, hj⟩ := List.getElem?_of_mem hx
        exact hc j x (by have := (List.getElem?_eq_some_iff.1 hj).1; omega) hj
      refine Ev.step (g := fun k => vellumref02_Encode.l1 k xs ([] : List Int) ((0 : Nat) : Int)) (fun k => ?_) ?_
      · simp only [vellumref02_Encode.l0]
        rw [if_neg (by omega)]
        rfl
      · have := build_ev xs.length 0 [] (by omega) (by simp) hall
        have e : xs.all (fun x => chkV x == 0) = true := List.all_eq_true.2 fun x hx => by simp [hall x hx]
        unfold encode
        rw [if_pos e]
        simpa using this
    | succ m ih =>
      intro i hi hc
      have hlt : i < xs.length := by omega
      obtain ⟨x, hx⟩ : ∃ x, xs[i]? = some x := ⟨_, List.getElem?_eq_getElem hlt⟩
      have hmem : x ∈ xs := List.mem_of_getElem? hx
      obtain ⟨w0, w1, w2, w3⟩ := hw x hmem
      refine Ev.step (g := fun k => (vellumref01_Check.f k x.f0 x.f1 x.f2 x.f3).bind fun t178 => (if t178 = 0 then (vellumref02_Encode.l0 k xs ((i + 1 : Nat) : Int)) else (some ((⟨#[]⟩ : ByteArray), 10)))) (fun k => ?_) ?_
      · simp only [vellumref02_Encode.l0]
        rw [if_pos (by omega), if_pos (by omega), rd_get _ _ _ hx, wrap64_id (by omega) (by omega)]
        rfl
      · refine Ev.bind (Ev.from_ 6 fun k => check_ref k _ _ _ _ w3) ?_
        by_cases h0 : chkV x = 0
        · refine Ev.pos h0 (ih (i + 1) (by omega) fun j y hj hy => ?_)
          rcases Nat.lt_or_ge j i with h | h
          · exact hc j y h hy
          · obtain rfl : j = i := by omega
            rw [hx] at hy; cases hy; exact h0
        · refine Ev.neg h0 ?_
          have e : ¬ xs.all (fun x => chkV x == 0) = true := fun h => h0 (by simpa using List.all_eq_true.1 h x hmem)
          unfold encode
          rw [if_neg e]
          exact Ev.pure
  have := check_ev xs.length 0 (by omega) (fun j x hj => by omega)
  simpa [vellumref02_Encode.f] using this
end Go.Proofs.YtpiifdbicibelaaDoor.Pure
end
section
namespace Go.Proofs.YtpiifdbicibelaaDoor.PA
open Go.RowKit Go.Proofs.YtpiifdbicibelaaDoorW.PrintWords Go.Proofs.YtpiifdbicibelaaDoorW.PrintLast Go.Proofs.YtpiifdbicibelaaDoorW.PrintMore
attribute [local go_sem] max2_int min2_int max_two min_two max_three min_three max_four min_four
set_option linter.unusedVariables false
set_option linter.unusedSimpArgs false
end Go.Proofs.YtpiifdbicibelaaDoor.PA
end
section
namespace Go.Proofs.YtpiifdbicibelaaDoor.Pure
open Go.RowKit Go.Proofs Go.Proofs.YtpiifdbicibelaaDoorW.PrintWords
set_option linter.unusedVariables false
/-- The size of a float by its rung. -/
@[irreducible] def fval (r : Nat) : Nat := if r < 2 ^ 52 then r else (2 ^ 52 + r % 2 ^ 52) * 2 ^ (r / 2 ^ 52 - 1)
theorem fval_mono {r s : Nat} (h : r < s) : fval r < fval s := by
  unfold fval
  by_cases h1 : s < 2 ^ 52
  · rw [if_pos (by omega), if_pos h1]; exact h
  · rw [if_neg h1]
    have hs := Nat.div_add_mod s (2 ^ 52)
    have hr := Nat.div_add_mod r (2 ^ 52)
    have hsm := Nat.mod_lt s (y := 2 ^ 52) (by decide)
    have hrm := Nat.mod_lt r (y := 2 ^ 52) (by decide)
    have hp : 1 ≤ 2 ^ (s / 2 ^ 52 - 1) := Nat.one_le_two_pow
    by_cases h2 : r < 2 ^ 52
    · rw [if_pos h2]
      calc r < 2 ^ 52 + s % 2 ^ 52 := by omega
        _ = (2 ^ 52 + s % 2 ^ 52) * 1 := by omega
        _ ≤ _ := Nat.mul_le_mul_left _ hp
    · rw [if_neg h2]
      by_cases hq : r / 2 ^ 52 = s / 2 ^ 52
      · rw [hq]
        refine Nat.mul_lt_mul_of_pos_right ?_ (by omega)
        omega
      · have hq' : r / 2 ^ 52 < s / 2 ^ 52 := by omega
        have hq1 : 1 ≤ r / 2 ^ 52 := by omega
        calc (2 ^ 52 + r % 2 ^ 52) * 2 ^ (r / 2 ^ 52 - 1) < (2 ^ 52 * 2) * 2 ^ (r / 2 ^ 52 - 1) := Nat.mul_lt_mul_of_pos_right (by omega) (Nat.pos_of_ne_zero (by simp))
          _ = 2 ^ 52 * 2 ^ (r / 2 ^ 52) := by rw [Nat.mul_assoc, ← Nat.pow_succ']; congr 2; omega
          _ ≤ 2 ^ 52 * 2 ^ (s / 2 ^ 52 - 1) := Nat.mul_le_mul_left _ (Nat.pow_le_pow_right (by decide) (by omega))
          _ ≤ _ := Nat.mul_le_mul_right _ (by omega)
/-- A float's rank among the floats that are numbers or infinite. -/
def frank (b : Nat) : Int := if b < 9223372036854775808 then (fval b : Int) else -(fval (b - 9223372036854775808) : Int)
def isNum (b : Nat) : Prop := b % 9223372036854775808 ≤ 9218868437227405312
theorem read_eq (b : Nat) (hb : b < 18446744073709551616) : FloatKind.f64.format.read b =
    (let neg := decide (9223372036854775808 ≤ b); let r := b % 9223372036854775808
     if r < 2 ^ 52 then .number neg r (-1074) else if r < 9218868437227405312 then .number neg (2 ^ 52 + r % 2 ^ 52) (-1074 + (r / 2 ^ 52 - 1 : Nat)) else if r = 9218868437227405312 then .infinity neg else .nan neg (r - 9218868437227405312)) := by
  have h1 : FloatKind.f64.format.signWeight = 9223372036854775808 := rfl
  have h2 : FloatKind.f64.format.binade = 2 ^ 52 := rfl
  have h3 : FloatKind.f64.format.infRung = 9218868437227405312 := rfl
  have h4 : FloatKind.f64.format.leastPlace = -1074 := rfl
  have h5 : (b / 9223372036854775808 % 2 == 1) = decide (9223372036854775808 ≤ b) := by
    by_cases h : 9223372036854775808 ≤ b
    · have : b / 9223372036854775808 % 2 = 1 := by omega
      simp [h, this]
    · have : b / 9223372036854775808 % 2 = 0 := by omega
      simp [h, this]
  unfold Ieee.Format.read
  rw [h1, h2, h3, h4, h5]
theorem signed_eq (s : Bool) (m u : Nat) : Ieee.signed s m u = if s then -((m * 2 ^ u : Nat) : Int) else ((m * 2 ^ u : Nat) : Int) := by
  unfold Ieee.signed
  rw [Nat.shiftLeft_eq]
theorem compare_mul {a b : Int} {k : Int} (hk : 0 < k) : compare (a * k) (b * k) = compare a b := by
  rcases Int.lt_trichotomy a b with h | h | h
  · rw [Int.compare_eq_lt.2 h, Int.compare_eq_lt.2 (Int.mul_lt_mul_of_pos_right h hk)]
  · subst h; simp
  · rw [Int.compare_eq_gt.2 h, Int.compare_eq_gt.2 (Int.mul_lt_mul_of_pos_right h hk)]
theorem order_numbers (s t : Bool) (m n e f : Nat) : (Ieee.Datum.number s m (-1074 + (e : Nat))).order (.number t n (-1074 + (f : Nat))) =
    some (compare (if s then -((m * 2 ^ e : Nat) : Int) else ((m * 2 ^ e : Nat) : Int)) (if t then -((n * 2 ^ f : Nat) : Int) else ((n * 2 ^ f : Nat) : Int))) := by
  unfold Ieee.Datum.order
  simp only [signed_eq]
  have hpe : ∀ x g : Nat, g ≤ x → (2 : Nat) ^ x = 2 ^ (x - g) * 2 ^ g := fun x g h => by rw [← Nat.pow_add]; congr 1; omega
  have h1 : ((-1074 + (e : Int)) - min (-1074 + (e : Int)) (-1074 + (f : Int))).toNat = e - min e f := by omega
  have h2 : ((-1074 + (f : Int)) - min (-1074 + (e : Int)) (-1074 + (f : Int))).toNat = f - min e f := by omega
  rw [h1, h2, hpe e (min e f) (by omega), hpe f (min e f) (by omega), ← Nat.mul_assoc, ← Nat.mul_assoc]
  have hk : (0 : Int) < ((2 ^ min e f : Nat) : Int) := by exact_mod_cast Nat.pos_of_ne_zero (by simp)
  congr 1
  rw [← compare_mul hk (a := if s then _ else _)]
  congr 1 <;> split <;> simp [Int.natCast_mul, Int.neg_mul]
theorem read_num {b : Nat} (hb : b < 18446744073709551616) (h : b % 9223372036854775808 < 9218868437227405312) :
    ∃ m e : Nat, FloatKind.f64.format.read b = .number (decide (9223372036854775808 ≤ b)) m (-1074 + (e : Int)) ∧ m * 2 ^ e = fval (b % 9223372036854775808) := by
  rw [read_eq b hb]
  by_cases h1 : b % 9223372036854775808 < 2 ^ 52
  · refine ⟨b % 9223372036854775808, 0, ?_, ?_⟩
    · simp only []
      rw [if_pos h1]
      rfl
    · unfold fval; rw [if_pos h1]; omega
  · refine ⟨2 ^ 52 + b % 9223372036854775808 % 2 ^ 52, b % 9223372036854775808 / 2 ^ 52 - 1, ?_, ?_⟩
    · simp only []
      rw [if_neg h1, if_pos h]
    · unfold fval; rw [if_neg h1]
theorem read_inf {b : Nat} (hb : b < 18446744073709551616) (h : b % 9223372036854775808 = 9218868437227405312) : FloatKind.f64.format.read b = .infinity (decide (9223372036854775808 ≤ b)) := by
  rw [read_eq b hb]
  simp only []
  rw [if_neg (by omega), if_neg (by omega), if_pos h]
theorem read_nan {b : Nat} (hb : b < 18446744073709551616) (h : ¬ isNum b) : ∃ s f, FloatKind.f64.format.read b = .nan s f := by
  unfold isNum at h
  rw [read_eq b hb]
  simp only []
  rw [if_neg (by omega), if_neg (by omega), if_neg (by omega)]
  exact ⟨_, _, rfl⟩
theorem frank_eq {b : Nat} (hb : b < 18446744073709551616) : frank b = if decide (9223372036854775808 ≤ b) then -(fval (b % 9223372036854775808) : Int) else (fval (b % 9223372036854775808) : Int) := by
  unfold frank
  by_cases h : b < 9223372036854775808
  · have e : b % 9223372036854775808 = b := by omega
    rw [if_pos h, e, if_neg (by simp; omega)]
  · have e : b % 9223372036854775808 = b - 9223372036854775808 := by omega
    rw [if_neg h, e, if_pos (by simp; omega)]
theorem order_rank {b c : Nat} (hb : b < 18446744073709551616) (hc : c < 18446744073709551616) (nb : isNum b) (nc : isNum c) : FloatKind.f64.format.order b c = some (compare (frank b) (frank c)) := by
  unfold isNum at nb nc
  unfold Ieee.Format.order
  rw [frank_eq hb, frank_eq hc]
  have big : ∀ r, r < 9218868437227405312 → fval r < fval 9218868437227405312 := fun r h => fval_mono h
  have hpos : 0 < fval 9218868437227405312 := by have := big 0 (by omega); omega
  rcases Nat.lt_or_ge (b % 9223372036854775808) 9218868437227405312 with h1 | h1
  · obtain ⟨m, e, hr, hm⟩ := read_num hb h1
    rw [hr]
    rcases Nat.lt_or_ge (c % 9223372036854775808) 9218868437227405312 with h2 | h2
    · obtain ⟨n, f, hs, hn⟩ := read_num hc h2
      rw [hs, order_numbers, hm, hn]
    · have h2' : c % 9223372036854775808 = 9218868437227405312 := by omega
      rw [read_inf hc h2', h2']
      have := big _ h1
      simp only [Ieee.Datum.order]
      cases decide (9223372036854775808 ≤ c)
      · simp only [Bool.false_eq_true, if_false]
        congr 1
        refine (Int.compare_eq_lt.2 ?_).symm
        split <;> omega
      · simp only [if_true]
        congr 1
        refine (Int.compare_eq_gt.2 ?_).symm
        split <;> omega
  · have h1' : b % 9223372036854775808 = 9218868437227405312 := by omega
    rw [read_inf hb h1', h1']
    rcases Nat.lt_or_ge (c % 9223372036854775808) 9218868437227405312 with h2 | h2
    · obtain ⟨n, f, hs, hn⟩ := read_num hc h2
      rw [hs]
      have := big _ h2
      simp only [Ieee.Datum.order]
      cases decide (9223372036854775808 ≤ b)
      · simp only [Bool.false_eq_true, if_false]
        congr 1
        refine (Int.compare_eq_gt.2 ?_).symm
        split <;> omega
      · simp only [if_true]
        congr 1
        refine (Int.compare_eq_lt.2 ?_).symm
        split <;> omega
    · have h2' : c % 9223372036854775808 = 9218868437227405312 := by omega
      rw [read_inf hc h2', h2']
      simp only [Ieee.Datum.order]
      cases decide (9223372036854775808 ≤ b) <;> cases decide (9223372036854775808 ≤ c)
      · simp
      · simp only [Bool.false_eq_true, if_false, if_true]
        congr 1
        have : compare (true.toNat) (false.toNat) = .gt := by decide
        rw [this]
        refine (Int.compare_eq_gt.2 ?_).symm
        omega
      · simp only [Bool.false_eq_true, if_false, if_true]
        congr 1
        have : compare (false.toNat) (true.toNat) = .lt := by decide
        rw [this]
        refine (Int.compare_eq_lt.2 ?_).symm
        omega
      · simp
theorem order_nan {b c : Nat} (hb : b < 18446744073709551616) (hc : c < 18446744073709551616) (h : ¬ isNum b ∨ ¬ isNum c) : FloatKind.f64.format.order b c = none := by
  unfold Ieee.Format.order
  rcases h with h | h
  · obtain ⟨s, f, e⟩ := read_nan hb h
    rw [e]; simp [Ieee.Datum.order]
  · obtain ⟨s, f, e⟩ := read_nan hc h
    rw [e]; cases FloatKind.f64.format.read b <;> simp [Ieee.Datum.order]
theorem feq_num {b : Nat} (hb : b < 18446744073709551616) : feq b b = true ↔ isNum b := by
  by_cases h : isNum b
  · unfold feq; rw [order_rank hb hb h h]; simp [h]
  · unfold feq; rw [order_nan hb hb (Or.inl h)]; simp [h]
theorem feq_iff {b c : Nat} (hb : b < 18446744073709551616) (hc : c < 18446744073709551616) : feq b c = true ↔ isNum b ∧ isNum c ∧ frank b = frank c := by
  by_cases h1 : isNum b <;> by_cases h2 : isNum c
  · unfold feq; rw [order_rank hb hc h1 h2]; simp [h1, h2]
  · unfold feq; rw [order_nan hb hc (Or.inr h2)]; simp [h2]
  · unfold feq; rw [order_nan hb hc (Or.inl h1)]; simp [h1]
  · unfold feq; rw [order_nan hb hc (Or.inl h1)]; simp [h1]
/-- The number that a float's code spells. -/
def fkey (b : Nat) : Int := if b < 9223372036854775808 then (b : Int) + 9223372036854775808 else 18446744073709551615 - (b : Int)
theorem codeBits_fkey (b : Nat) : codeBits b = be (fkey b) 8 := by unfold codeBits fkey; split <;> rfl
theorem fval_zero : fval 0 = 0 := by unfold fval; rfl
theorem plainF_num {b : Nat} (hb : b < 18446744073709551616) (h : isNum b) : isNum (plainF b) ∧ frank (plainF b) = frank b ∧ plainF b ≠ 9223372036854775808 := by
  have hz : isNum 0 := by unfold isNum; omega
  unfold plainF
  by_cases h0 : feq b 0 = true
  · rw [if_pos h0]
    exact ⟨hz, ((feq_iff hb (by omega)).1 h0).2.2.symm, by omega⟩
  · rw [if_neg h0, if_pos ((feq_num hb).2 h)]
    refine ⟨h, rfl, fun e => h0 ?_⟩
    subst e
    exact (feq_iff hb (by omega)).2 ⟨h, hz, by unfold frank; rw [if_neg (by omega), if_pos (by omega)]; simp [fval_zero]⟩
theorem plainF_nan {b : Nat} (hb : b < 18446744073709551616) (h : ¬ isNum b) : plainF b = 9221120237041090560 := by
  unfold plainF
  rw [if_neg (fun h0 => h ((feq_iff hb (by omega)).1 h0).1), if_neg (fun h0 => h ((feq_num hb).1 h0))]
end Go.Proofs.YtpiifdbicibelaaDoor.Pure
end
section
namespace Go.Proofs.YtpiifdbicibelaaDoor.PA
open Go.RowKit Go.Proofs.YtpiifdbicibelaaDoorW.PrintWords Go.Proofs.YtpiifdbicibelaaDoorW.PrintLast Go.Proofs.YtpiifdbicibelaaDoorW.PrintMore
attribute [local go_sem] max2_int min2_int max_two min_two max_three min_three max_four min_four
set_option linter.unusedVariables false
set_option linter.unusedSimpArgs false
end Go.Proofs.YtpiifdbicibelaaDoor.PA
end
section
namespace Go.Proofs.YtpiifdbicibelaaDoor.Pure
open Go.RowKit Go.Proofs Go.Proofs.YtpiifdbicibelaaDoorW.PrintWords Go.Proofs.YtpiifdbicibelaaDoorW.PrintLast Go.Proofs.YtpiifdbicibelaaDoorW.PrintMore Go.Proofs.YtpiifdbicibelaaDoor.PA Go.Proofs.YtpiifdbicibelaaDoor.OpenK
set_option linter.unusedVariables false
/-- What may follow a text's code: nothing, or a byte below 255. -/
def Tail (r : List Int) : Prop := ∀ x l, r = x :: l → x < 255
/-- u's code is before v's, whatever follows. -/
def Bf (u v : List Int) : Prop := ∀ r s, Tail r → u ++ r < v ++ s
theorem Bf.cons {a : Int} {u v : List Int} (h : Bf u v) : Bf (a :: u) (a :: v) := fun r s hr => List.cons_lt_cons_iff.2 (Or.inr ⟨rfl, h r s hr⟩)
theorem Bf.head {a b : Int} {u v : List Int} (h : a < b) : Bf (a :: u) (b :: v) := fun r s hr => List.cons_lt_cons_iff.2 (Or.inl h)
theorem nb_spec (u : Nat) : u < 256 ^ nb u := by
  induction u using Nat.strongRecOn with
  | ind u ih =>
    unfold nb
    by_cases h : u = 0
    · rw [dif_pos h]; subst h; simp
    · rw [dif_neg h]
      have := ih (u / 256) (by omega)
      rw [Nat.add_comm, Nat.pow_succ]
      omega
theorem top_mod {n u : Nat} (hn : n ≤ 8) (hu : u < 256 ^ n) : (18446744073709551615 - u) % 256 ^ n = 256 ^ n - 1 - u := by
  have hk : 18446744073709551615 - u = (256 ^ n - 1 - u) + 256 ^ n * (256 ^ (8 - n) - 1) := by
    have e : (256 : Nat) ^ n * 256 ^ (8 - n) = 18446744073709551616 := by
      rw [← Nat.pow_add, Nat.add_sub_cancel' hn]
    rw [Nat.mul_sub, e]
    have h1 : 256 ^ n ≤ 18446744073709551616 := by
      rw [← e]
      exact Nat.le_mul_of_pos_right _ (Nat.pow_pos (by decide))
    omega
  rw [hk, Nat.add_mul_mod_self_left, Nat.mod_eq_of_lt (by omega)]
/-- Three answers of a comparing, and what each says of the codes. -/
def Says (t : Int) (u v : List Int) : Prop := (t = -1 ∧ Bf u v) ∨ (t = 1 ∧ Bf v u) ∨ (t = 0 ∧ u = v)
theorem Says.cons {t a : Int} {u v : List Int} (h : Says t u v) : Says t (a :: u) (a :: v) := by
  rcases h with ⟨h1, h2⟩ | ⟨h1, h2⟩ | ⟨h1, h2⟩
  · exact Or.inl ⟨h1, h2.cons⟩
  · exact Or.inr (Or.inl ⟨h1, h2.cons⟩)
  · exact Or.inr (Or.inr ⟨h1, by rw [h2]⟩)
/-- The codes of a list's values, one behind the other. -/
def flat (xs : List S50) : List Int := xs.flatMap codeOf
theorem build_flat : ∀ (xs : List S50) (acc l : List Int), build acc xs = some l → l = acc ++ flat xs ∧ (acc.length ≤ 1024 → l.length ≤ 1024)
  | [], acc, l, h => by
    simp only [build, Option.some.injEq] at h
    subst h
    simp [flat]
  | x :: xs, acc, l, h => by
    simp only [build] at h
    split at h
    · cases h
    · rename_i hl
      obtain ⟨h1, h2⟩ := build_flat xs _ _ h
      refine ⟨by rw [h1]; simp [flat], fun _ => h2 (by omega)⟩
theorem encode_ok {xs : List S50} (h : (encode xs).2 = 0) : (∀ x ∈ xs, chkV x = 0) ∧ encode xs = (strOfNums (flat xs), 0) ∧ (flat xs).length ≤ 1024 := by
  unfold encode at h ⊢
  split at h
  · rename_i ha
    have hc : ∀ x ∈ xs, chkV x = 0 := fun x hx => by simpa using List.all_eq_true.1 ha x hx
    cases hb : build [] xs with
    | none => rw [hb] at h; cases h
    | some l =>
      obtain ⟨h1, h2⟩ := build_flat xs [] l hb
      simp only [List.nil_append] at h1
      subst h1
      rw [if_pos ha]
      exact ⟨hc, rfl, h2 (by simp)⟩
  · cases h
def Bytes (l : List Int) : Prop := ∀ x ∈ l, 0 ≤ x ∧ x ≤ 255
theorem be_bytes (u : Int) : ∀ n, Bytes (be u n)
  | 0 => by intro x hx; simp [be] at hx
  | n + 1 => by
    intro x hx
    simp only [be, List.mem_cons] at hx
    rcases hx with rfl | hx
    · omega
    · exact be_bytes u n x hx
theorem codeText_bytes : ∀ l : List UInt8, Bytes (codeText l)
  | [] => by intro x hx; simp [codeText] at hx; omega
  | b :: l => by
    have ih := codeText_bytes l
    have hb := b.toNat_lt
    intro x hx
    unfold codeText at hx
    split at hx
    · simp only [List.mem_cons] at hx
      rcases hx with rfl | rfl | hx
      · omega
      · omega
      · exact ih x hx
    · simp only [List.mem_cons] at hx
      rcases hx with rfl | hx
      · omega
      · exact ih x hx
theorem Bytes.cons {a : Int} {l : List Int} (h : 0 ≤ a ∧ a ≤ 255) (hl : Bytes l) : Bytes (a :: l) := by
  intro x hx
  rcases List.mem_cons.1 hx with rfl | hx
  · exact h
  · exact hl x hx
theorem codeInt_bytes {n : Int} (hn : (Lit.int .i64 n).wf = true) : Bytes (codeInt n) := by
  obtain ⟨h0, h1⟩ := isInt_range hn
  have h2 := nb_le 8 n.toNat (by omega)
  have h3 := nb_le 8 (-(n + 1)).toNat (by omega)
  unfold codeInt
  split
  · exact Bytes.cons (by omega) (be_bytes _ _)
  · exact Bytes.cons (by omega) (be_bytes _ _)
theorem codeOf_bytes {x : S50} (w : wf50 x) : Bytes (codeOf x) := by
  obtain ⟨x0, x1, x2, x3⟩ := w
  unfold codeOf codeV
  split
  · exact Bytes.cons (by omega) (Bytes.cons (by omega) (fun _ h => by cases h))
  · split
    · exact Bytes.cons (by omega) (codeInt_bytes x1)
    · split
      · exact Bytes.cons (by omega) (by rw [codeBits_fkey]; exact be_bytes _ _)
      · split
        · exact Bytes.cons (by omega) (codeText_bytes _)
        · split
          · exact Bytes.cons (by omega) (codeText_bytes _)
          · exact Bytes.cons (by omega) (fun _ h => by cases h)
theorem flat_bytes {xs : List S50} (w : ∀ x ∈ xs, wf50 x) : Bytes (flat xs) := by
  intro b hb
  obtain ⟨x, hx, hm⟩ := List.mem_flatMap.1 hb
  exact codeOf_bytes (w x hx) b hm
def toB (l : List Int) : List UInt8 := l.map fun n => UInt8.ofNat n.toNat
theorem strOfNums_data (l : List Int) : (strOfNums l).data.toList = toB l := by simp [strOfNums, toB]
theorem ofNat_toNat {a : Int} (h : 0 ≤ a ∧ a ≤ 255) : (UInt8.ofNat a.toNat).toNat = a.toNat := by
  rw [UInt8.toNat_ofNat']; omega
theorem codeOf_head (x : S50) : ∃ a l, codeOf x = a :: l ∧ a < 255 := by
  unfold codeOf codeV
  split
  · exact ⟨_, _, rfl, by omega⟩
  · split
    · exact ⟨_, _, rfl, by omega⟩
    · split
      · exact ⟨_, _, rfl, by omega⟩
      · split
        · exact ⟨_, _, rfl, by omega⟩
        · split
          · exact ⟨_, _, rfl, by omega⟩
          · exact ⟨_, _, rfl, by omega⟩
theorem flat_tail : ∀ xs : List S50, Tail (flat xs)
  | [], x, l, h => by simp [flat] at h
  | y :: ys, x, l, h => by
    obtain ⟨a, t, e, ha⟩ := codeOf_head y
    simp only [flat, List.flatMap_cons, e, List.cons_append, List.cons.injEq] at h
    omega
theorem flat_cons (x : S50) (xs : List S50) : flat (x :: xs) = codeOf x ++ flat xs := by simp [flat]
end Go.Proofs.YtpiifdbicibelaaDoor.Pure
end
section
namespace Go.Proofs.YtpiifdbicibelaaDoor.Pure
open Go.RowKit Go.Proofs Go.Proofs.YtpiifdbicibelaaDoorW.PrintWords Go.Proofs.YtpiifdbicibelaaDoorW.PrintLast Go.Proofs.YtpiifdbicibelaaDoorW.PrintMore Go.Proofs.YtpiifdbicibelaaDoor.PA Go.Proofs.YtpiifdbicibelaaDoor.OpenK
set_option linter.unusedVariables false
set_option linter.unusedSimpArgs false
theorem str_size (L : List Int) : (strOfNums L).size = L.length := by
  rw [← data_length, strOfNums_data]; simp [toB]
theorem str_bytes (s : ByteArray) : strOfNums (bytesOf s) = s := by
  apply Go.WideShapes.bytes_inj
  rw [strOfNums_data]
  simp [toB, bytesOf, List.map_map, Function.comp_def]
theorem bytesOf_bytes (s : ByteArray) : Bytes (bytesOf s) := by
  intro x hx
  simp [bytesOf] at hx
  obtain ⟨b, _, rfl⟩ := hx
  have := b.toNat_lt
  omega
theorem toB_inj : ∀ {u v : List Int}, Bytes u → Bytes v → toB u = toB v → u = v
  | [], [], _, _, _ => rfl
  | [], _ :: _, _, _, h => by simp [toB] at h
  | _ :: _, [], _, _, h => by simp [toB] at h
  | a :: u, b :: v, hu, hv, h => by
    simp only [toB, List.map_cons, List.cons.injEq] at h
    have ha := hu a (by simp)
    have hb := hv b (by simp)
    have e := congrArg UInt8.toNat h.1
    rw [ofNat_toNat ha, ofNat_toNat hb] at e
    have e2 := toB_inj (u := u) (v := v) (fun x hx => hu x (by simp [hx])) (fun x hx => hv x (by simp [hx])) (by simpa [toB] using h.2)
    subst e2
    congr 1
    omega
theorem str_inj {u v : List Int} (hu : Bytes u) (hv : Bytes v) (h : strOfNums u = strOfNums v) : u = v := by
  refine toB_inj hu hv ?_
  rw [← strOfNums_data, ← strOfNums_data, h]
theorem str_bt {L : List Int} (hL : Bytes L) (i : Nat) (h : i < L.length) : bt (strOfNums L) (i : Int) = L[i] := by
  unfold bt
  simp only [Int.toNat_natCast]
  rw [dif_pos (by rw [str_size]; exact h)]
  have h1 : (strOfNums L)[i]'(by rw [str_size]; exact h) = (strOfNums L).data.toList[i]'(by rw [strOfNums_data]; simpa [toB] using h) := rfl
  rw [h1]
  have h2 : (strOfNums L).data.toList[i]'(by rw [strOfNums_data]; simpa [toB] using h) = UInt8.ofNat (L[i]).toNat := by
    simp only [strOfNums_data, toB, List.getElem_map]
  rw [h2, ofNat_toNat (hL _ (List.getElem_mem h))]
  have := hL _ (List.getElem_mem h)
  omega
theorem str_drop (L : List Int) (i : Nat) : (strOfNums L).extract i (strOfNums L).size = strOfNums (L.drop i) := by
  apply Go.WideShapes.bytes_inj
  rw [Lib.extract_to_end, strOfNums_data, strOfNums_data]
  simp [toB, List.map_drop]
theorem str_take (L : List Int) (i j : Nat) : (strOfNums L).extract i j = strOfNums ((L.drop i).take (j - i)) := by
  apply Go.WideShapes.bytes_inj
  rw [strOfNums_data]
  have := Lib.extract_data (strOfNums L) i j
  rw [this, strOfNums_data]
  simp [toB, List.map_take, List.map_drop]
theorem str_drop' (L : List Int) (i : Nat) : (strOfNums L).extract i L.length = strOfNums (L.drop i) := by
  have := str_drop L i
  rwa [str_size] at this
theorem Bytes.drop {L : List Int} (h : Bytes L) (i : Nat) : Bytes (L.drop i) := fun x hx => h x (List.mem_of_mem_drop hx)
theorem Bytes.take {L : List Int} (h : Bytes L) (i : Nat) : Bytes (L.take i) := fun x hx => h x (List.mem_of_mem_take hx)
theorem Bytes.tail {a : Int} {L : List Int} (h : Bytes (a :: L)) : Bytes L := fun x hx => h x (by simp [hx])
theorem Bytes.app {L M : List Int} (h : Bytes (L ++ M)) : Bytes L ∧ Bytes M := ⟨fun x hx => h x (by simp [hx]), fun x hx => h x (by simp [hx])⟩
def num : List Int → Int
  | [] => 0
  | x :: L => x * 256 ^ L.length + num L
theorem pow_pos (n : Nat) : (0 : Int) < 256 ^ n := Int.pow_pos (by decide)
theorem num_range : ∀ {L : List Int}, Bytes L → 0 ≤ num L ∧ num L < 256 ^ L.length
  | [], _ => by simp [num]
  | x :: L, h => by
    have ih := num_range h.tail
    have hx := h x (by simp)
    have hp := pow_pos L.length
    have h1 : 0 ≤ x * 256 ^ L.length := Int.mul_nonneg hx.1 (Int.le_of_lt hp)
    have h2 : x * 256 ^ L.length ≤ 255 * 256 ^ L.length := Int.mul_le_mul_of_nonneg_right hx.2 (Int.le_of_lt hp)
    simp only [num, List.length_cons, Int.pow_succ]
    omega
theorem be_num_aux : ∀ (L : List Int) (c : Int), Bytes L → be (c * 256 ^ L.length + num L) L.length = L
  | [], c, _ => rfl
  | x :: L, c, h => by
    have hx := h x (by simp)
    have hr := num_range h.tail
    have hp := pow_pos L.length
    have e : c * 256 ^ (L.length + 1) + num (x :: L) = (c * 256 + x) * 256 ^ L.length + num L := by
      simp only [num, Int.pow_succ]
      rw [Int.add_mul, Int.mul_assoc, Int.mul_comm (256 ^ L.length) 256]
      omega
    simp only [List.length_cons]
    rw [e, be]
    have hd : ((c * 256 + x) * 256 ^ L.length + num L) / 256 ^ L.length = c * 256 + x := by
      rw [Int.add_comm, Int.add_mul_ediv_right _ _ (by omega), Int.ediv_eq_zero_of_lt hr.1 hr.2]; omega
    rw [hd, be_num_aux L (c * 256 + x) h.tail]
    congr 1
    omega
theorem be_num {L : List Int} (h : Bytes L) : be (num L) L.length = L := by
  have := be_num_aux L 0 h
  simpa using this
theorem num_be (u : Int) (h0 : 0 ≤ u) : ∀ n, num (be u n) = u % 256 ^ n
  | 0 => by simp [be, num, Int.emod_one]
  | n + 1 => by
    have ih := num_be u h0 n
    simp only [be, num, be_length, ih]
    obtain ⟨U, rfl⟩ := Int.eq_ofNat_of_zero_le h0
    have hm := Nat.mod_mul (a := 256 ^ n) (b := 256) (x := U)
    have hpw : (256 : Int) ^ n = ((256 ^ n : Nat) : Int) := by simp
    rw [Int.pow_succ, hpw, ← Int.natCast_ediv, ← Int.natCast_emod]
    have e1 : ((U / 256 ^ n : Nat) : Int) % 256 = ((U / 256 ^ n % 256 : Nat) : Int) := by simp
    have e2 : (U : Int) % (((256 ^ n : Nat) : Int) * 256) = ((U % (256 ^ n * 256) : Nat) : Int) := by simp
    rw [e1, e2, hm, Nat.mul_comm (256 ^ n)]
    simp
    omega
theorem or_low (x b : Int) (hx : 0 ≤ x ∧ x < 72057594037927936) (hb : 0 ≤ b ∧ b ≤ 255) : Go.bits .or .u64 (IntKind.u64.wrap (x * 256)) (IntKind.u64.wrap b) = x * 256 + b := by
  rw [u64_wrap_id (by omega) (by omega), u64_wrap_id (by omega) (by omega)]
  have e1 : Go.bits .or .u64 (x * 256) b = IntKind.u64.wrap (((BitVec.ofInt 64 (x * 256)) ||| (BitVec.ofInt 64 b)).toNat : Int) := rfl
  rw [e1, BitVec.toNat_or, BitVec.toNat_ofInt, BitVec.toNat_ofInt, u64_wrap]
  have e2 : ((x * 256) % ((2 ^ 64 : Nat) : Int)).toNat = 2 ^ 8 * x.toNat := by omega
  have e3 : (b % ((2 ^ 64 : Nat) : Int)).toNat = b.toNat := by omega
  rw [e2, e3, ← Nat.two_pow_add_eq_or_of_lt (by omega)]
  omega
theorem num_app : ∀ (L : List Int) (b : Int), num (L ++ [b]) = num L * 256 + b
  | [], b => by simp [num]
  | x :: L, b => by
    simp only [List.cons_append, num, List.length_append, List.length_singleton, num_app L b, Int.pow_succ]
    rw [Int.add_mul, ← Int.mul_assoc]; omega
theorem pow8 {n : Nat} (h : n ≤ 7) : (256 : Int) ^ n ≤ 72057594037927936 := by
  have h1 : (256 : Nat) ^ n ≤ 256 ^ 7 := Nat.pow_le_pow_right (by decide) h
  have h2 : ((256 ^ n : Nat) : Int) = (256 : Int) ^ n := by simp
  omega
theorem number_ev (L : List Int) (hL : Bytes L) (hl : L.length ≤ 8) : Ev (fun k => code_number.f k (strOfNums L)) (num L) := by
  have go : ∀ (m i : Nat), i + m = L.length → Ev (fun k => code_number.l0 k (strOfNums L) (num (L.take i)) (L.length : Int) (i : Int)) (num L) := by
    intro m
    induction m with
    | zero =>
      intro i hi
      refine Ev.from_ 1 fun k => ?_
      simp only [code_number.l0]
      rw [if_neg (by omega), List.take_of_length_le (by omega)]
    | succ m ih =>
      intro i hi
      have hlt : i < L.length := by omega
      have hr := num_range (hL.take i)
      have hp := pow8 (n := (L.take i).length) (by rw [List.length_take]; omega)
      refine Ev.step (g := fun k => code_number.l0 k (strOfNums L) (num (L.take (i + 1))) (L.length : Int) ((i + 1 : Nat) : Int)) (fun k => ?_) (ih (i + 1) (by omega))
      simp only [code_number.l0]
      rw [if_pos (by omega), if_pos (by omega), if_pos (by rw [str_size]; omega), str_bt hL i hlt, or_low _ _ ⟨hr.1, by omega⟩ (hL _ (List.getElem_mem hlt)), wrap64_id (by omega) (by omega), ← num_app, List.take_append_getElem hlt]
      rfl
  have := go L.length 0 (by omega)
  simpa [code_number.f, str_size, num] using this
theorem number_ref_ev (L : List Int) (hL : Bytes L) (hl : L.length ≤ 8) : Ev (fun k => vellumref02_number.f k (strOfNums L)) (num L) := by
  have go : ∀ (m i : Nat), i + m = L.length → Ev (fun k => vellumref02_number.l0 k (strOfNums L) (num (L.take i)) (i : Int)) (num L) := by
    intro m
    induction m with
    | zero =>
      intro i hi
      refine Ev.from_ 1 fun k => ?_
      simp only [vellumref02_number.l0]
      rw [if_neg (by rw [str_size]; omega), List.take_of_length_le (by omega)]
    | succ m ih =>
      intro i hi
      have hlt : i < L.length := by omega
      have hr := num_range (hL.take i)
      have hp := pow8 (n := (L.take i).length) (by rw [List.length_take]; omega)
      refine Ev.step (g := fun k => vellumref02_number.l0 k (strOfNums L) (num (L.take (i + 1))) ((i + 1 : Nat) : Int)) (fun k => ?_) (ih (i + 1) (by omega))
      simp only [vellumref02_number.l0]
      rw [if_pos (by rw [str_size]; omega), if_pos (by omega), str_bt hL i hlt, or_low _ _ ⟨hr.1, by omega⟩ (hL _ (List.getElem_mem hlt)), wrap64_id (by omega) (by omega), ← num_app, List.take_append_getElem hlt]
      rfl
  have := go L.length 0 (by omega)
  simpa [vellumref02_number.f, num] using this
theorem take_f (L : List Int) (n : Nat) : code_take.f (strOfNums L) (n : Int) = some (if L.length < n then ((⟨#[]⟩ : ByteArray), (⟨#[]⟩ : ByteArray), false) else (strOfNums (L.take n), strOfNums (L.drop n), true)) := by
  unfold code_take.f
  rw [str_size]
  by_cases h : L.length < n
  · rw [if_pos (by omega), if_pos h]
  · rw [if_neg (by omega), if_neg h, if_pos (by omega), if_pos (by omega), str_drop', str_take]
    simp
theorem xor_ones (n j : Nat) (h : n < 2 ^ j) : n ^^^ (2 ^ j - 1) = 2 ^ j - 1 - n := by
  apply Nat.eq_of_testBit_eq
  intro i
  have e : 2 ^ j - 1 - n = 2 ^ j - (n + 1) := by omega
  rw [e, Nat.testBit_xor, Nat.testBit_two_pow_sub_one, Nat.testBit_two_pow_sub_succ h]
  by_cases hi : i < j
  · simp [hi]
  · have : n.testBit i = false := Nat.testBit_lt_two_pow (Nat.lt_of_lt_of_le h (Nat.pow_le_pow_right (by decide) (by omega)))
    simp [hi, this]
theorem mask_shr (k : Nat) (h1 : 1 ≤ k) (h8 : k ≤ 8) : shr .u64 18446744073709551615 (64 - 8 * (k : Int)) = 256 ^ k - 1 := by
  obtain rfl | rfl | rfl | rfl | rfl | rfl | rfl | rfl : k = 1 ∨ k = 2 ∨ k = 3 ∨ k = 4 ∨ k = 5 ∨ k = 6 ∨ k = 7 ∨ k = 8 := by omega
  all_goals decide
theorem pow_nat (k : Nat) : (256 : Int) ^ k = ((2 ^ (8 * k) : Nat) : Int) := by
  rw [Nat.pow_mul]; simp
theorem xor_mask (n : Int) (k : Nat) (h0 : 0 ≤ n) (hn : n < 256 ^ k) (h1 : 1 ≤ k) (h8 : k ≤ 8) : Go.bits .xor .u64 n (shr .u64 18446744073709551615 (64 - 8 * (k : Int))) = 256 ^ k - 1 - n := by
  rw [mask_shr k h1 h8]
  have hp : (2 : Nat) ^ (8 * k) ≤ 2 ^ 64 := Nat.pow_le_pow_right (by decide) (by omega)
  rw [pow_nat] at hn ⊢
  have e1 : Go.bits .xor .u64 n (((2 ^ (8 * k) : Nat) : Int) - 1) = IntKind.u64.wrap (((BitVec.ofInt 64 n) ^^^ (BitVec.ofInt 64 (((2 ^ (8 * k) : Nat) : Int) - 1))).toNat : Int) := rfl
  rw [e1, BitVec.toNat_xor, BitVec.toNat_ofInt, BitVec.toNat_ofInt, u64_wrap]
  have h2 : (n % ((2 ^ 64 : Nat) : Int)).toNat = n.toNat := by omega
  have hpos : 0 < 2 ^ (8 * k) := Nat.pow_pos (by decide)
  have h3 : ((((2 ^ (8 * k) : Nat) : Int) - 1) % ((2 ^ 64 : Nat) : Int)).toNat = 2 ^ (8 * k) - 1 := by omega
  rw [h2, h3, xor_ones _ _ (by omega)]
  omega
theorem and_mask (t : Int) (k : Nat) (h0 : 0 ≤ t) (ht : t < 256 ^ k) (h1 : 1 ≤ k) (h8 : k ≤ 8) :
    Go.bits .and .u64 (not64 t) (IntKind.u64.wrap ((shl .u64 1 (IntKind.u64.wrap (8 * (k : Int)))) - 1)) = 256 ^ k - 1 - t := by
  have hp : (2 : Nat) ^ (8 * k) ≤ 2 ^ 64 := Nat.pow_le_pow_right (by decide) (by omega)
  have hpos : 0 < 2 ^ (8 * k) := Nat.pow_pos (by decide)
  have hm : IntKind.u64.wrap ((shl .u64 1 (IntKind.u64.wrap (8 * (k : Int)))) - 1) = (256 : Int) ^ k - 1 := by
    obtain rfl | rfl | rfl | rfl | rfl | rfl | rfl | rfl : k = 1 ∨ k = 2 ∨ k = 3 ∨ k = 4 ∨ k = 5 ∨ k = 6 ∨ k = 7 ∨ k = 8 := by omega
    all_goals decide
  rw [hm]
  rw [pow_nat] at ht ⊢
  rw [not64_eq t h0 (by omega)]
  have e1 : Go.bits .and .u64 (18446744073709551615 - t) (((2 ^ (8 * k) : Nat) : Int) - 1) = IntKind.u64.wrap (((BitVec.ofInt 64 (18446744073709551615 - t)) &&& (BitVec.ofInt 64 (((2 ^ (8 * k) : Nat) : Int) - 1))).toNat : Int) := rfl
  rw [e1, BitVec.toNat_and, BitVec.toNat_ofInt, BitVec.toNat_ofInt, u64_wrap]
  have h2 : ((18446744073709551615 - t) % ((2 ^ 64 : Nat) : Int)).toNat = 18446744073709551615 - t.toNat := by omega
  have h3 : ((((2 ^ (8 * k) : Nat) : Int) - 1) % ((2 ^ 64 : Nat) : Int)).toNat = 2 ^ (8 * k) - 1 := by omega
  rw [h2, h3, Nat.and_two_pow_sub_one_eq_mod]
  have h4 : (18446744073709551615 - t.toNat) % 2 ^ (8 * k) = 2 ^ (8 * k) - 1 - t.toNat := by
    have := top_mod (n := k) (u := t.toNat) h8 (by rw [Nat.pow_mul] at ht; have : (256 : Nat) ^ k = (2 ^ 8) ^ k := rfl; omega)
    have e : (256 : Nat) ^ k = 2 ^ (8 * k) := by rw [Nat.pow_mul]
    rwa [e] at this
  rw [h4]
  omega
/-- What stands behind an int's tag: the number that the bytes tell, whether it is below 0, and how many bytes. -/
def rawInt : List Int → Option (Int × Bool × Nat)
  | [] => none
  | h :: M => if 8 < (h - 128).natAbs ∨ M.length < (h - 128).natAbs then none
    else some (if h < 128 then 256 ^ (h - 128).natAbs - 1 - num (M.take (h - 128).natAbs) else num (M.take (h - 128).natAbs), decide (h < 128), (h - 128).natAbs)
def intOfRaw (m : Int) (b : Bool) : Int := if b then -m - 1 else m
def fitsRaw (m : Int) (b : Bool) (k : Nat) : Bool := decide (nb m.toNat = k) || (b && decide (m = 0) && decide (k = 1))
theorem raw_range {L : List Int} (hL : Bytes L) {m : Int} {b : Bool} {k : Nat} (h : rawInt L = some (m, b, k)) : 0 ≤ m ∧ m < 256 ^ k ∧ k ≤ 8 ∧ k + 1 ≤ L.length ∧ (b = true → 1 ≤ k) := by
  cases L with
  | nil => cases h
  | cons x M =>
    simp only [rawInt] at h
    split at h
    · cases h
    · rename_i hk
      simp only [Option.some.injEq, Prod.mk.injEq] at h
      obtain ⟨rfl, rfl, rfl⟩ := h
      have hr := num_range (hL.tail.take (x - 128).natAbs)
      have hl : (M.take (x - 128).natAbs).length = (x - 128).natAbs := by rw [List.length_take]; omega
      rw [hl] at hr
      have hb : decide (x < 128) = true → 1 ≤ (x - 128).natAbs := fun h => by have := of_decide_eq_true h; omega
      refine ⟨?_, ?_, by omega, by simp; omega, hb⟩
      · split <;> omega
      · split <;> omega
theorem raw_sound {L : List Int} (hL : Bytes L) {m : Int} {b : Bool} {k : Nat} (h : rawInt L = some (m, b, k)) (hf : fitsRaw m b k = true) (hm : m ≤ 9223372036854775807) :
    (Lit.int .i64 (intOfRaw m b)).wf = true ∧ L = codeInt (intOfRaw m b) ++ L.drop (k + 1) := by
  have hr := raw_range hL h
  have hwf : (Lit.int .i64 (intOfRaw m b)).wf = true := by
    have : -9223372036854775808 ≤ intOfRaw m b ∧ intOfRaw m b ≤ 9223372036854775807 := by unfold intOfRaw; split <;> omega
    simpa [Lit.wf, IntKind.min, IntKind.max, IntKind.signed, IntKind.bits] using this
  refine ⟨hwf, ?_⟩
  cases L with
  | nil => cases h
  | cons x M =>
    have hx := hL x (by simp)
    simp only [rawInt] at h
    split at h
    · cases h
    · rename_i hk
      simp only [Option.some.injEq, Prod.mk.injEq] at h
      obtain ⟨h1, h2, h3⟩ := h
      have hl : (M.take k).length = k := by rw [List.length_take]; omega
      have hbn := be_num (hL.tail.take k)
      have hn := num_range (hL.tail.take k)
      rw [hl] at hbn hn
      rw [h3] at h1
      cases b with
      | true =>
        have hx2 : x < 128 := of_decide_eq_true h2
        rw [if_pos hx2] at h1
        have em : intOfRaw m true = -m - 1 := rfl
        have eq1 : (-(-m - 1 + 1)).toNat = m.toNat := by omega
        have hkk : max (nb m.toNat) 1 = k := by
          unfold fitsRaw at hf
          simp at hf
          have hk1 := hr.2.2.2.2 rfl
          rcases hf with hf | ⟨hf1, hf2⟩
          · omega
          · subst hf1 hf2
            have hz : nb 0 = 0 := by unfold nb; simp
            show max (nb 0) 1 = 1
            rw [hz]; rfl
        rw [em]
        unfold codeInt
        rw [if_neg (by omega), eq1, hkk]
        have e3 : (128 - (k : Int)) = x := by omega
        have e4 : be (18446744073709551615 - -(-m - 1 + 1)) k = M.take k := by
          rw [← hbn]
          have e5 : 18446744073709551615 - -(-m - 1 + 1) = num (M.take k) + (18446744073709551616 / 256 ^ k - 1) * 256 ^ k := by
            have hdiv : (18446744073709551616 : Int) / 256 ^ k * 256 ^ k = 18446744073709551616 := by
              obtain rfl | rfl | rfl | rfl | rfl | rfl | rfl | rfl : k = 1 ∨ k = 2 ∨ k = 3 ∨ k = 4 ∨ k = 5 ∨ k = 6 ∨ k = 7 ∨ k = 8 := by omega
              all_goals decide
            rw [Int.sub_mul, hdiv]
            omega
          rw [e5]
          have hall : ∀ (n : Nat) (u c : Int), n ≤ k → be (u + c * 256 ^ k) n = be u n := by
            intro n
            induction n with
            | zero => intro u c _; rfl
            | succ n ih =>
              intro u c hn
              simp only [be]
              rw [ih u c (by omega)]
              congr 1
              have e6 : c * 256 ^ k = (c * 256 ^ (k - n - 1) * 256) * 256 ^ n := by
                rw [Int.mul_assoc (c * 256 ^ (k - n - 1)), ← Int.pow_succ', Int.mul_assoc, ← Int.pow_add]
                congr 2; omega
              rw [e6, Int.add_mul_ediv_right _ _ (by have := pow_pos n; omega)]
              omega
          exact hall k _ _ (Nat.le_refl _)
        rw [e4]
        simp only [List.drop_succ_cons, List.cons_append, List.take_append_drop]
        congr 1
        omega
      | false =>
        have hx2 : ¬ x < 128 := of_decide_eq_false h2
        rw [if_neg hx2] at h1
        have em : intOfRaw m false = m := rfl
        have hkk : nb m.toNat = k := by
          unfold fitsRaw at hf
          simpa using hf
        rw [em]
        unfold codeInt
        rw [if_pos hr.1, hkk, ← h1, hbn]
        simp only [List.drop_succ_cons, List.cons_append, List.take_append_drop]
        congr 1
        omega
theorem raw_complete {n : Int} (hn : (Lit.int .i64 n).wf = true) (R : List Int) : ∃ m k, rawInt (codeInt n ++ R) = some (m, decide (n < 0), k) ∧ intOfRaw m (decide (n < 0)) = n ∧ fitsRaw m (decide (n < 0)) k = true ∧ m ≤ 9223372036854775807 ∧ (codeInt n).length = k + 1 := by
  obtain ⟨h0, h1⟩ := isInt_range hn
  by_cases hp : 0 ≤ n
  · have hd : decide (n < 0) = false := decide_eq_false (by omega)
    rw [hd]
    have hk := nb_le 8 n.toNat (by omega)
    have hs := nb_spec n.toNat
    refine ⟨n, nb n.toNat, ?_, rfl, by simp [fitsRaw], h1, by unfold codeInt; rw [if_pos hp]; simp [be_length]⟩
    unfold codeInt
    rw [if_pos hp]
    have e1 : (128 + (nb n.toNat : Int) - 128).natAbs = nb n.toNat := by omega
    have e2 : (be n (nb n.toNat) ++ R).take (nb n.toNat) = be n (nb n.toNat) := by
      rw [List.take_append_of_le_length (by rw [be_length]; omega), List.take_of_length_le (by rw [be_length]; omega)]
    simp only [List.cons_append, rawInt, e1, e2]
    rw [if_neg (by simp [be_length]; omega), if_neg (by omega), num_be n hp]
    have e3 : n % 256 ^ nb n.toNat = n := by
      refine Int.emod_eq_of_lt hp ?_
      have : ((256 ^ nb n.toNat : Nat) : Int) = (256 : Int) ^ nb n.toNat := by simp
      omega
    rw [e3, decide_eq_false (p := (128 + (nb n.toNat : Int)) < 128) (by omega)]
  · have hd : decide (n < 0) = true := decide_eq_true (by omega)
    rw [hd]
    have hk := nb_le 8 (-(n + 1)).toNat (by omega)
    have hs := nb_spec (-(n + 1)).toNat
    generalize hu : (-(n + 1)).toNat = u at *
    have hun : (u : Int) = -(n + 1) := by omega
    generalize hkk : max (nb u) 1 = k at *
    have hk8 : k ≤ 8 := by omega
    have hk1 : 1 ≤ k := by omega
    have huk : u < 256 ^ k := Nat.lt_of_lt_of_le hs (Nat.pow_le_pow_right (by decide) (by omega))
    refine ⟨-(n + 1), k, ?_, by simp [intOfRaw], ?_, by omega, by unfold codeInt; rw [if_neg hp, hu, hkk]; simp [be_length]⟩
    · unfold codeInt
      rw [if_neg hp, hu, hkk]
      have e1 : (128 - (k : Int) - 128).natAbs = k := by omega
      have e2 : (be (18446744073709551615 - -(n + 1)) k ++ R).take k = be (18446744073709551615 - -(n + 1)) k := by
        rw [List.take_append_of_le_length (by rw [be_length]; omega), List.take_of_length_le (by rw [be_length]; omega)]
      simp only [List.cons_append, rawInt, e1, e2]
      rw [if_neg (by simp [be_length]; omega), if_pos (by omega), num_be _ (by omega)]
      have e3 : (18446744073709551615 - -(n + 1)) % 256 ^ k = 256 ^ k - 1 - -(n + 1) := by
        have ht := top_mod (n := k) (u := u) hk8 huk
        have hpw : ((256 ^ k : Nat) : Int) = (256 : Int) ^ k := by simp
        have hle : (256 : Nat) ^ k ≤ 256 ^ 8 := Nat.pow_le_pow_right (by decide) hk8
        have hc : (18446744073709551615 - -(n + 1)) = ((18446744073709551615 - u : Nat) : Int) := by omega
        rw [hc, ← hpw, ← Int.natCast_emod, ht]
        omega
      rw [e3, decide_eq_true (p := (128 - (k : Int)) < 128) (by omega)]
      have e4 : (256 : Int) ^ k - 1 - (256 ^ k - 1 - -(n + 1)) = -(n + 1) := by omega
      rw [e4]
    · unfold fitsRaw
      have : (-(n + 1)).toNat = u := hu
      rw [this]
      simp
      by_cases hz : u = 0
      · right; subst hz
        have : nb 0 = 0 := by unfold nb; simp
        omega
      · left; have := nb_pos hz; omega
def zeroG : Int × Int × Nat × ByteArray × ByteArray × Bool := (0, 0, 0, (⟨#[]⟩ : ByteArray), (⟨#[]⟩ : ByteArray), false)
/-- What getInt tells of some bytes. -/
def gotInt (L : List Int) : Int × Int × Nat × ByteArray × ByteArray × Bool :=
  match rawInt L with
  | none => zeroG
  | some (m, b, k) => if fitsRaw m b k = true ∧ m ≤ 9223372036854775807 then (2, intOfRaw m b, 0, (⟨#[]⟩ : ByteArray), strOfNums (L.drop (k + 1)), true) else zeroG
theorem getInt_ev (L : List Int) (hL : Bytes L) : Ev (fun k => code_getInt.f k (strOfNums L)) (gotInt L) := by
  have z64 : ∀ {x : Int}, -1000 ≤ x → x ≤ 1000 → wrap64 x = x := fun h1 h2 => wrap64_id (by omega) (by omega)
  simp only [code_getInt.f]
  have ht' : code_take.f (strOfNums L) 1 = some (if L.length < 1 then ((⟨#[]⟩ : ByteArray), (⟨#[]⟩ : ByteArray), false) else (strOfNums (L.take 1), strOfNums (L.drop 1), true)) := take_f L 1
  cases L with
  | nil =>
    refine Ev.bind (Ev.const ht') ?_
    refine Ev.neg (by simp) ?_
    exact Ev.pure
  | cons h M =>
    have hh := hL h (by simp)
    have hM : Bytes M := hL.tail
    rw [if_neg (by simp)] at ht'
    refine Ev.bind (Ev.const ht') ?_
    have hb : bt (strOfNums [h]) 0 = h := str_bt (L := [h]) (fun x hx => by simp at hx; subst hx; exact hh) 0 (by simp)
    refine Ev.pos rfl ?_
    show Ev (fun k => if 0 < ((strOfNums [h]).size : Int) then _ else none) _
    refine Ev.pos (by rw [str_size]; simp) ?_
    have e1 : wrap64 (wrap64 h - 128) = h - 128 := by rw [z64 (x := h) (by omega) (by omega), z64 (by omega) (by omega)]
    have e2 : wrap64 (-(h - 128)) = -(h - 128) := z64 (by omega) (by omega)
    simp only [List.take_succ_cons, List.take_zero, List.drop_succ_cons, List.drop_zero, hb, e1, e2]
    unfold gotInt
    simp only [rawInt]
    by_cases hneg : h < 128
    · refine Ev.pos (by omega) ?_
      obtain ⟨k, hk⟩ : ∃ k : Nat, (k : Int) = -(h - 128) := ⟨(128 - h).toNat, by omega⟩
      have hka : (h - 128).natAbs = k := by omega
      rw [← hk, hka]
      by_cases h8 : (k : Int) > 8
      · refine Ev.pos h8 ?_
        rw [if_pos (.inl (by omega))]
        exact Ev.pure
      refine Ev.neg h8 (Ev.bind (Ev.const (take_f M k)) ?_)
      by_cases hlen : M.length < k
      · rw [if_pos hlen, if_pos (.inr hlen)]
        exact Ev.neg (by simp) Ev.pure
      rw [if_neg hlen, if_neg (by omega)]
      have hl : (M.take k).length = k := by rw [List.length_take]; omega
      have hn := num_range (hM.take k)
      rw [hl] at hn
      refine Ev.pos rfl (Ev.bind (number_ev (M.take k) (hM.take k) (by omega)) ?_)
      have e3 : wrap64 (64 - wrap64 (8 * (k : Int))) = 64 - 8 * (k : Int) := by rw [z64 (x := 8 * (k : Int)) (by omega) (by omega), z64 (by omega) (by omega)]
      simp only [e3, xor_mask (num (M.take k)) k hn.1 hn.2 (by omega) (by omega)]
      refine Ev.pos (by omega) ?_
      rw [if_pos hneg, decide_eq_true hneg]
      generalize hmm : (256 : Int) ^ k - 1 - num (M.take k) = m
      have hm0 : 0 ≤ m := by omega
      have hpk : (256 : Int) ^ k ≤ 18446744073709551616 := by
        have h1 : (256 : Nat) ^ k ≤ 256 ^ 8 := Nat.pow_le_pow_right (by decide) (by omega)
        have h2 : ((256 ^ k : Nat) : Int) = (256 : Int) ^ k := by simp
        omega
      have hsz := size_code m.toNat (by omega)
      have hmc : ((m.toNat : Nat) : Int) = m := by omega
      rw [hmc] at hsz
      refine Ev.bind (Ev.const hsz) ?_
      have fin : ∀ (hf : fitsRaw m true k = true), Ev (fun kk => if m > 9223372036854775807 then some zeroG else some (2, wrap64 (wrap64 (-(wrap64 m)) - 1), 0, (⟨#[]⟩ : ByteArray), strOfNums (M.drop k), true))
          (if fitsRaw m true k = true ∧ m ≤ 9223372036854775807 then (2, intOfRaw m true, 0, (⟨#[]⟩ : ByteArray), strOfNums (M.drop k), true) else zeroG) := by
        intro hf
        by_cases hbig : m > 9223372036854775807
        · refine Ev.pos hbig ?_
          rw [if_neg (by omega)]
          exact Ev.pure
        · refine Ev.neg hbig ?_
          rw [if_pos ⟨hf, by omega⟩]
          rw [wrap64_id (n := m) (by omega) (by omega), wrap64_id (n := -m) (by omega) (by omega), wrap64_id (by omega) (by omega)]
          exact Ev.pure
      by_cases hs : (nb m.toNat : Int) = (k : Int)
      · exact Ev.pos hs (fin (by unfold fitsRaw; simp; left; omega))
      · refine Ev.neg hs ?_
        by_cases hz : m = 0
        · refine Ev.pos hz ?_
          by_cases hk1 : (k : Int) = 1
          · exact Ev.pos hk1 (fin (by unfold fitsRaw; simp [hz]; right; omega))
          · refine Ev.neg hk1 ?_
            rw [if_neg]
            · exact Ev.pure
            · rintro ⟨hf, _⟩
              unfold fitsRaw at hf
              simp [hz] at hf
              rw [hz] at hs
              rcases hf with hf | hf
              · exact hs (by simp; omega)
              · omega
        · refine Ev.neg hz ?_
          rw [if_neg]
          · exact Ev.pure
          · rintro ⟨hf, _⟩
            unfold fitsRaw at hf
            simp [hz] at hf
            omega
    · refine Ev.neg (by omega) ?_
      obtain ⟨k, hk⟩ : ∃ k : Nat, (k : Int) = h - 128 := ⟨(h - 128).toNat, by omega⟩
      have hka : (h - 128).natAbs = k := by omega
      rw [← hk]
      rw [hk, hka, ← hk]
      by_cases h8 : (k : Int) > 8
      · refine Ev.pos h8 ?_
        rw [if_pos (.inl (by omega))]
        exact Ev.pure
      refine Ev.neg h8 (Ev.bind (Ev.const (take_f M k)) ?_)
      by_cases hlen : M.length < k
      · rw [if_pos hlen, if_pos (.inr hlen)]
        exact Ev.neg (by simp) Ev.pure
      rw [if_neg hlen, if_neg (by omega)]
      have hl : (M.take k).length = k := by rw [List.length_take]; omega
      have hn := num_range (hM.take k)
      rw [hl] at hn
      refine Ev.pos rfl (Ev.bind (number_ev (M.take k) (hM.take k) (by omega)) ?_)
      rw [if_neg hneg, decide_eq_false hneg]
      generalize hmm : num (M.take k) = m at *
      have hpk : (256 : Int) ^ k ≤ 18446744073709551616 := by
        have h1 : (256 : Nat) ^ k ≤ 256 ^ 8 := Nat.pow_le_pow_right (by decide) (by omega)
        have h2 : ((256 ^ k : Nat) : Int) = (256 : Int) ^ k := by simp
        omega
      have hsz := size_code m.toNat (by omega)
      have hmc : ((m.toNat : Nat) : Int) = m := by omega
      rw [hmc] at hsz
      refine Ev.bind (Ev.const hsz) ?_
      by_cases hs : (nb m.toNat : Int) = (k : Int)
      · refine Ev.pos hs ?_
        have hf : fitsRaw m false k = true := by unfold fitsRaw; simp; omega
        show Ev _ (if fitsRaw m false k = true ∧ m ≤ 9223372036854775807 then (2, intOfRaw m false, 0, (⟨#[]⟩ : ByteArray), strOfNums (M.drop k), true) else zeroG)
        by_cases hbig : m > 9223372036854775807
        · refine Ev.pos hbig ?_
          rw [if_neg (by omega)]
          exact Ev.pure
        · refine Ev.neg hbig ?_
          rw [if_pos ⟨hf, by omega⟩]
          rw [wrap64_id (n := m) (by omega) (by omega)]
          exact Ev.pure
      · refine Ev.neg hs ?_
        show Ev _ (if fitsRaw m false k = true ∧ m ≤ 9223372036854775807 then (2, intOfRaw m false, 0, (⟨#[]⟩ : ByteArray), strOfNums (M.drop k), true) else zeroG)
        rw [if_neg]
        · exact Ev.pure
        · rintro ⟨hf, _⟩
          unfold fitsRaw at hf
          simp at hf
          omega
end Go.Proofs.YtpiifdbicibelaaDoor.Pure
end
section
namespace Go.Proofs.YtpiifdbicibelaaDoor.PA
open Go.RowKit Go.Proofs.YtpiifdbicibelaaDoorW.PrintWords Go.Proofs.YtpiifdbicibelaaDoorW.PrintLast Go.Proofs.YtpiifdbicibelaaDoorW.PrintMore
attribute [local go_sem] max2_int min2_int max_two min_two max_three min_three max_four min_four
set_option linter.unusedVariables false
set_option linter.unusedSimpArgs false
end Go.Proofs.YtpiifdbicibelaaDoor.PA
end
section
namespace Go.Proofs.YtpiifdbicibelaaDoor.Pure
open Go.RowKit Go.Proofs Go.Proofs.YtpiifdbicibelaaDoorW.PrintWords Go.Proofs.YtpiifdbicibelaaDoorW.PrintLast Go.Proofs.YtpiifdbicibelaaDoorW.PrintMore Go.Proofs.YtpiifdbicibelaaDoor.PA Go.Proofs.YtpiifdbicibelaaDoor.OpenK
set_option linter.unusedVariables false
set_option linter.unusedSimpArgs false
def vb (n : Nat) : List Int := if h : 128 ≤ n then ((n % 128 + 128 : Nat) : Int) :: vb (n / 128) else [(n : Int)]
decreasing_by omega
theorem bytesOf_length (s : ByteArray) : (bytesOf s).length = s.size := by simp [bytesOf]
end Go.Proofs.YtpiifdbicibelaaDoor.Pure
end
section
namespace Go.Proofs.YtpiifdbicibelaaDoor.PA
open Go.RowKit Go.Proofs.YtpiifdbicibelaaDoorW.PrintWords Go.Proofs.YtpiifdbicibelaaDoorW.PrintLast Go.Proofs.YtpiifdbicibelaaDoorW.PrintMore
attribute [local go_sem] max2_int min2_int max_two min_two max_three min_three max_four min_four
set_option linter.unusedVariables false
set_option linter.unusedSimpArgs false
end Go.Proofs.YtpiifdbicibelaaDoor.PA
end
section
namespace Go.Proofs.YtpiifdbicibelaaDoor.Pure
open Go.RowKit Go.Proofs Go.Proofs.YtpiifdbicibelaaDoorW.PrintWords Go.Proofs.YtpiifdbicibelaaDoorW.PrintLast Go.Proofs.YtpiifdbicibelaaDoorW.PrintMore Go.Proofs.YtpiifdbicibelaaDoor.PA Go.Proofs.YtpiifdbicibelaaDoor.OpenK
set_option linter.unusedVariables false
set_option linter.unusedSimpArgs false
/-- Are these the same value to the bits? -/
def smB (x y : S50) : Bool := if x.f0 = y.f0 then (if x.f1 = y.f1 then (if ((x.f2 : Nat) : Int) = ((y.f2 : Nat) : Int) then x.f3.toList == y.f3.toList else false) else false) else false
theorem sm_ref (x y : S50) : vellumref01_Same.f x.f0 x.f1 x.f2 x.f3 y.f0 y.f1 y.f2 y.f3 = some (smB x y) := by
  unfold vellumref01_Same.f smB
  repeat' split
  all_goals rfl
def sameL : List S50 → List S50 → Bool
  | x :: xs, y :: ys => smB x y && sameL xs ys
  | _, _ => true
def fin (l : List Int) : ByteArray × Int := if 65536 < l.length then ((⟨#[]⟩ : ByteArray), 3) else (strOfNums l, 0)
theorem same_ref (xs ys : List S50) (hl : xs.length < 9223372036854775807) : Ev (fun k => vellumref01_SameRow.f k xs ys) (decide (xs.length = ys.length) && sameL xs ys) := by
  simp only [vellumref01_SameRow.f]
  by_cases hlen : xs.length = ys.length
  · rw [decide_eq_true hlen, Bool.true_and]
    refine Ev.pos (by omega) ?_
    have go : ∀ (m i : Nat), i + m = xs.length → Ev (fun k => vellumref01_SameRow.l0 k xs ys (i : Int)) (sameL (xs.drop i) (ys.drop i)) := by
      intro m
      induction m with
      | zero =>
        intro i hi
        refine Ev.from_ 1 fun k => ?_
        simp only [vellumref01_SameRow.l0]
        rw [if_neg (by omega), List.drop_of_length_le (l := xs) (by omega)]
        simp [sameL]
      | succ m ih =>
        intro i hi
        have hlt : i < ys.length := by omega
        have hltx : i < xs.length := by omega
        have hyy : ys[i]? = some ys[i] := List.getElem?_eq_getElem hlt
        have hxx : xs[i]? = some xs[i] := List.getElem?_eq_getElem hltx
        rw [List.drop_eq_getElem_cons hlt, List.drop_eq_getElem_cons hltx]
        simp only [sameL]
        refine Ev.step (g := fun k => (vellumref01_Same.f xs[i].f0 xs[i].f1 xs[i].f2 xs[i].f3 ys[i].f0 ys[i].f1 ys[i].f2 ys[i].f3).bind fun t534 => (if t534 = true then (vellumref01_SameRow.l0 k xs ys ((i + 1 : Nat) : Int)) else (some false))) (fun k => ?_) (Ev.bind (Ev.const (sm_ref xs[i] ys[i])) ?_)
        · simp only [vellumref01_SameRow.l0]
          rw [if_pos (by omega), if_pos (by omega), if_pos (by omega), rd_get xs i _ hxx, rd_get ys i _ hyy, wrap64_id (by omega) (by omega)]
          rfl
        · cases hs : smB xs[i] ys[i] with
          | true => exact Ev.pos rfl (by simpa using ih (i + 1) (by omega))
          | false => exact Ev.neg (by decide) (by simpa using Ev.pure)
    have := go xs.length 0 (by omega)
    simpa using this
  · rw [decide_eq_false hlen, Bool.false_and]
    exact Ev.neg (by omega) Ev.pure
theorem toB_nat (u : List UInt8) : toB (u.map fun b => (b.toNat : Int)) = u := by
  simp [toB, List.map_map, Function.comp_def]
theorem text_complete : ∀ (u acc : List UInt8) (R : List Int), Tail R → Bytes R → textOff acc (toB (codeText u ++ R)) = some (acc ++ u, toB R)
  | [], acc, R, hT, hR => by
    show textOff acc (0 :: toB R) = _
    rw [textOff_zero]
    · simp
    · intro l' e
      cases R with
      | nil => simp [toB] at e
      | cons x R =>
        have h1 := hT x R rfl
        have h2 := hR x (by simp)
        simp only [toB, List.map_cons, List.cons.injEq] at e
        have e2 := congrArg UInt8.toNat e.1
        rw [ofNat_toNat h2] at e2
        have : (255 : UInt8).toNat = 255 := rfl
        omega
  | b :: u, acc, R, hT, hR => by
    have ih := fun acc => text_complete u acc R hT hR
    simp only [codeText]
    split
    · rename_i h0
      subst h0
      show textOff acc (0 :: 255 :: toB (codeText u ++ R)) = _
      rw [textOff, ih]
      simp
    · rename_i h0
      have : toB (((b.toNat : Int) :: codeText u) ++ R) = b :: toB (codeText u ++ R) := by simp [toB]
      rw [this, textOff_ne h0, ih]
      simp
theorem text_sound : ∀ (n : Nat) (l acc t r : List UInt8), l.length ≤ n → textOff acc l = some (t, r) → ∃ u, t = acc ++ u ∧ (l.map fun b => (b.toNat : Int)) = codeText u ++ (r.map fun b => (b.toNat : Int))
  | _, [], acc, t, r, _, h => by simp [textOff] at h
  | 0, b :: l, acc, t, r, hn, _ => by simp at hn
  | n + 1, b :: l, acc, t, r, hn, h => by
    by_cases h0 : b = 0
    · subst h0
      by_cases h2 : ∃ l', l = 255 :: l'
      · obtain ⟨l', rfl⟩ := h2
        rw [textOff] at h
        obtain ⟨u, rfl, hu⟩ := text_sound n l' _ t r (by simp at hn; omega) h
        refine ⟨0 :: u, by simp, ?_⟩
        simp only [List.map_cons, codeText, if_pos, List.cons_append]
        rw [hu]; rfl
      · rw [textOff_zero (fun l' e => h2 ⟨l', e⟩)] at h
        simp only [Option.some.injEq, Prod.mk.injEq] at h
        obtain ⟨rfl, rfl⟩ := h
        exact ⟨[], by simp, by simp [codeText]⟩
    · rw [textOff_ne h0] at h
      obtain ⟨u, rfl, hu⟩ := text_sound n l _ t r (by simp at hn; omega) h
      refine ⟨b :: u, by simp, ?_⟩
      simp only [List.map_cons, codeText, if_neg h0, List.cons_append]
      rw [hu]
theorem nat_toB {L : List Int} (h : Bytes L) : ((toB L).map fun b => (b.toNat : Int)) = L := by
  induction L with
  | nil => rfl
  | cons x L ih =>
    have hx := h x (by simp)
    simp only [toB, List.map_cons] at ih ⊢
    rw [ih h.tail, ofNat_toNat hx]
    congr 1
    omega
theorem str_toB (L : List Int) : (⟨(toB L).toArray⟩ : ByteArray) = strOfNums L := by
  apply Go.WideShapes.bytes_inj
  rw [strOfNums_data]
theorem xor_down (x : Int) (h0 : 9223372036854775808 ≤ x) (h1 : x < 18446744073709551616) : Go.bits .xor .u64 x 9223372036854775808 = x - 9223372036854775808 := by
  have h := xor_top (x - 9223372036854775808) (by omega) (by omega)
  have e1 : ∀ y : Int, Go.bits .xor .u64 y 9223372036854775808 = IntKind.u64.wrap (((BitVec.ofInt 64 y) ^^^ (BitVec.ofInt 64 9223372036854775808)).toNat : Int) := fun _ => rfl
  rw [e1] at h ⊢
  have hlt := ((BitVec.ofInt 64 (x - 9223372036854775808)) ^^^ (BitVec.ofInt 64 9223372036854775808)).isLt
  rw [u64_wrap_id (by omega) (by omega)] at h
  have hX : BitVec.ofInt 64 x = (BitVec.ofInt 64 (x - 9223372036854775808)) ^^^ (BitVec.ofInt 64 9223372036854775808) := by
    apply BitVec.eq_of_toNat_eq
    rw [BitVec.toNat_ofInt]
    omega
  rw [hX, BitVec.xor_assoc, BitVec.xor_self, BitVec.xor_zero, BitVec.toNat_ofInt, u64_wrap]
  omega
/-- The float that eight bytes tell. -/
def floatOf (w : List Int) : Nat := if 9223372036854775808 ≤ num w then (num w - 9223372036854775808).toNat else (18446744073709551615 - num w).toNat
theorem floatOf_lt {w : List Int} (hw : Bytes w) (h8 : w.length = 8) : floatOf w < 18446744073709551616 := by
  have := num_range hw
  rw [h8] at this
  have e : (256 : Int) ^ 8 = 18446744073709551616 := by decide
  unfold floatOf
  split <;> omega
theorem floatOf_code {w : List Int} (hw : Bytes w) (h8 : w.length = 8) : codeBits (floatOf w) = w := by
  have hr := num_range hw
  have hb := be_num hw
  rw [h8] at hr hb
  have e : (256 : Int) ^ 8 = 18446744073709551616 := by decide
  unfold floatOf codeBits
  split
  · rw [if_pos (by omega)]
    have : (((num w - 9223372036854775808).toNat : Nat) : Int) + 9223372036854775808 = num w := by omega
    rw [this, hb]
  · rw [if_neg (by omega)]
    have : 18446744073709551615 - (((18446744073709551615 - num w).toNat : Nat) : Int) = num w := by omega
    rw [this, hb]
theorem codeBits_float {c : Nat} (hc : c < 18446744073709551616) : floatOf (codeBits c) = c := by
  have e : (256 : Int) ^ 8 = 18446744073709551616 := by decide
  unfold codeBits
  split
  · rename_i h
    have : num (be ((c : Int) + 9223372036854775808) 8) = (c : Int) + 9223372036854775808 := by rw [num_be _ (by omega), e]; omega
    unfold floatOf
    rw [this, if_pos (by omega)]; omega
  · rename_i h
    have : num (be (18446744073709551615 - (c : Int)) 8) = 18446744073709551615 - (c : Int) := by rw [num_be _ (by omega), e]; omega
    unfold floatOf
    rw [this, if_neg (by omega)]; omega
/-- What getFloat tells of some bytes. -/
def gotFloat (L : List Int) : Int × Int × Nat × ByteArray × ByteArray × Bool :=
  if L.length < 8 then zeroG else (3, 0, floatOf (L.take 8), (⟨#[]⟩ : ByteArray), strOfNums (L.drop 8), plainF (floatOf (L.take 8)) == floatOf (L.take 8))
theorem getFloat_ev (L : List Int) (hL : Bytes L) : Ev (fun k => code_getFloat.f k (strOfNums L)) (gotFloat L) := by
  simp only [code_getFloat.f]
  refine Ev.bind (Ev.const (show code_take.f (strOfNums L) 8 = _ from take_f L 8)) ?_
  unfold gotFloat
  by_cases h : L.length < 8
  · rw [if_pos h, if_pos h]
    exact Ev.neg (by simp) Ev.pure
  · rw [if_neg h, if_neg h]
    have hl : (L.take 8).length = 8 := by rw [List.length_take]; omega
    have hr := num_range (hL.take 8)
    rw [hl] at hr
    have e : (256 : Int) ^ 8 = 18446744073709551616 := by decide
    refine Ev.pos rfl (Ev.bind (number_ev (L.take 8) (hL.take 8) (by omega)) ?_)
    have cast_eq : ∀ (a b : Nat) (c : Int), c = b → (((a : Nat) : Int) == c) = (a == b) := by
      intro a b c hc
      subst hc
      rw [Bool.eq_iff_iff, beq_iff_eq, beq_iff_eq]; omega
    by_cases h1 : 9223372036854775808 ≤ num (L.take 8)
    · refine Ev.pos (by omega) ?_
      rw [xor_down _ h1 (by omega)]
      have ef : floatOf (L.take 8) = (num (L.take 8) - 9223372036854775808).toNat := by unfold floatOf; rw [if_pos h1]
      rw [← ef]
      refine Ev.bind (v := (3, 0, plainF (floatOf (L.take 8)), (⟨#[]⟩ : ByteArray))) (Ev.from_ 1 fun k => by rw [plain_ev, if_pos rfl]) ?_
      rw [cast_eq _ (floatOf (L.take 8)) _ (by omega)]
      exact Ev.pure
    · refine Ev.neg (by omega) ?_
      rw [not64_eq _ (by omega) (by omega)]
      have ef : floatOf (L.take 8) = (18446744073709551615 - num (L.take 8)).toNat := by unfold floatOf; rw [if_neg h1]
      rw [← ef]
      refine Ev.bind (v := (3, 0, plainF (floatOf (L.take 8)), (⟨#[]⟩ : ByteArray))) (Ev.from_ 1 fun k => by rw [plain_ev, if_pos rfl]) ?_
      rw [cast_eq _ (floatOf (L.take 8)) _ (by omega)]
      exact Ev.pure
/-- A value that a key tells: it may be, and a float is the one that stands for all that are the same. -/
structure Told (v : S50) : Prop where
  ok : chkV v = 0
  wf : wf50 v
  plain : v.f0 = 3 → plainF v.f2 = v.f2
def tup (v : S50) (R : List Int) : Int × Int × Nat × ByteArray × ByteArray × Bool := (v.f0, v.f1, v.f2, v.f3, strOfNums R, true)
/-- What get tells of some bytes. -/
def gotText (tag : Int) (M : List Int) : Int × Int × Nat × ByteArray × ByteArray × Bool :=
  match textOff [] (toB M) with
  | none => (tag - 1, 0, 0, (⟨#[]⟩ : ByteArray), (⟨#[]⟩ : ByteArray), false)
  | some (t, r) => (tag - 1, 0, 0, ⟨t.toArray⟩, ⟨r.toArray⟩, chk (tag - 1) 0 0 ⟨t.toArray⟩ == 0)
def got : List Int → Int × Int × Nat × ByteArray × ByteArray × Bool
  | [] => zeroG
  | t :: M =>
    if t = 1 then (0, 0, 0, (⟨#[]⟩ : ByteArray), strOfNums M, true)
    else if t = 2 then (match M with | [] => zeroG | b :: M' => if b > 1 then zeroG else (1, b, 0, (⟨#[]⟩ : ByteArray), strOfNums M', true))
    else if t = 3 then gotInt M
    else if t = 4 then gotFloat M
    else if t = 5 ∨ t = 6 then gotText t M
    else zeroG
theorem textOff_len : ∀ (n : Nat) (l acc t r : List UInt8), l.length ≤ n → textOff acc l = some (t, r) → t.length ≤ acc.length + l.length ∧ r.length ≤ l.length
  | _, [], acc, t, r, _, h => by simp [textOff] at h
  | 0, b :: l, acc, t, r, hn, _ => by simp at hn
  | n + 1, b :: l, acc, t, r, hn, h => by
    by_cases h0 : b = 0
    · subst h0
      by_cases h2 : ∃ l', l = 255 :: l'
      · obtain ⟨l', rfl⟩ := h2
        rw [textOff] at h
        have := textOff_len n l' _ t r (by simp at hn; omega) h
        simp at this ⊢; omega
      · rw [textOff_zero (fun l' e => h2 ⟨l', e⟩)] at h
        simp only [Option.some.injEq, Prod.mk.injEq] at h
        obtain ⟨rfl, rfl⟩ := h
        simp
    · rw [textOff_ne h0] at h
      have := textOff_len n l _ t r (by simp at hn; omega) h
      simp at this ⊢; omega
theorem get_ev (L : List Int) (hL : Bytes L) (hne : L ≠ []) (hlen : L.length ≤ 1000000) : Ev (fun k => code_get.f k (strOfNums L)) (got L) := by
  cases L with
  | nil => exact absurd rfl hne
  | cons t M =>
    have hM := hL.tail
    have ht := hL t (by simp)
    have hb0 : bt (strOfNums (t :: M)) 0 = t := str_bt hL 0 (by simp)
    have hx : (strOfNums (t :: M)).extract 1 (strOfNums (t :: M)).size = strOfNums M := by rw [str_drop]; rfl
    have hsz : 1 ≤ ((strOfNums (t :: M)).size : Int) := by rw [str_size]; simp only [List.length_cons]; omega
    simp only [code_get.f, hb0, hx]
    refine Ev.pos (by omega) (Ev.pos hsz ?_)
    simp only [got]
    by_cases h1 : t = 1
    · rw [if_pos h1]; exact Ev.pos h1 Ev.pure
    rw [if_neg h1]
    refine Ev.neg h1 ?_
    by_cases h2 : t = 2
    · rw [if_pos h2]
      refine Ev.pos h2 (Ev.bind (Ev.const (show code_take.f (strOfNums M) 1 = _ from take_f M 1)) ?_)
      cases M with
      | nil => exact Ev.neg (by simp) Ev.pure
      | cons b M' =>
        have hb := hM b (by simp)
        rw [if_neg (show ¬ ((b :: M').length < 1) by simp)]
        have hbb : bt (strOfNums [b]) 0 = b := str_bt (L := [b]) (fun x hx => by simp at hx; subst hx; exact hb) 0 (by simp)
        refine Ev.pos rfl ?_
        show Ev (fun k => if 0 < ((strOfNums [b]).size : Int) then (if bt (strOfNums [b]) 0 > 1 then some zeroG else some (1, wrap64 (bt (strOfNums [b]) 0), 0, (⟨#[]⟩ : ByteArray), strOfNums M', true)) else none) (if b > 1 then zeroG else (1, b, 0, (⟨#[]⟩ : ByteArray), strOfNums M', true))
        refine Ev.pos (by rw [str_size]; simp) ?_
        rw [hbb, wrap64_id (by omega) (by omega)]
        by_cases h3 : b > 1
        · rw [if_pos h3, if_pos h3]; exact Ev.pure
        · rw [if_neg h3, if_neg h3]; exact Ev.pure
    rw [if_neg h2]
    refine Ev.neg h2 ?_
    by_cases h3 : t = 3
    · rw [if_pos h3]
      refine Ev.pos h3 (Ev.bind (getInt_ev M hM) ?_)
      exact Ev.pure
    rw [if_neg h3]
    refine Ev.neg h3 ?_
    by_cases h4 : t = 4
    · rw [if_pos h4]
      refine Ev.pos h4 (Ev.bind (getFloat_ev M hM) ?_)
      exact Ev.pure
    rw [if_neg h4]
    refine Ev.neg h4 ?_
    have hgs : code_getString.f (strOfNums M) = some (match textOff [] (toB M) with | some (t, l) => (⟨t.toArray⟩, ⟨l.toArray⟩, true) | none => ((⟨#[]⟩ : ByteArray), (⟨#[]⟩ : ByteArray), false)) := by
      unfold code_getString.f
      rw [if_pos (by rw [str_size]; simp at hlen; omega), strOfNums_data]
      all_goals (cases textOff [] (toB M) <;> rfl)
    have hj : ∀ (tag : Int), tag = 5 ∨ tag = 6 → Ev (fun k => code_get.j0 k (strOfNums M) tag true) (gotText tag M) := by
      intro tag htag
      refine Ev.step (g := fun k => (code_getString.f (strOfNums M)).bind fun bt493 => (if tag = 6 then (if bt493.2.2 = true then ((value_Check.f k 5 0 0 bt493.1).bind fun t497 => (some (5, 0, 0, bt493.1, bt493.2.1, (t497 == 0)))) else (some (5, 0, 0, bt493.1, bt493.2.1, false))) else (if bt493.2.2 = true then ((value_Check.f k 4 0 0 bt493.1).bind fun t498 => (some (4, 0, 0, bt493.1, bt493.2.1, (t498 == 0)))) else (some (4, 0, 0, bt493.1, bt493.2.1, false))))) (fun k => ?_) ?_
      · simp only [code_get.j0]
        rw [if_pos trivial]
      · refine Ev.bind (Ev.const hgs) ?_
        unfold gotText
        cases hto : textOff [] (toB M) with
        | none =>
          rcases htag with rfl | rfl
          · exact Ev.neg (by decide) (Ev.neg (by simp) Ev.pure)
          · exact Ev.pos rfl (Ev.neg (by simp) Ev.pure)
        | some tr =>
          obtain ⟨t', r'⟩ := tr
          have hl := textOff_len (toB M).length (toB M) [] t' r' (Nat.le_refl _) hto
          have hs : (⟨t'.toArray⟩ : ByteArray).size ≤ 140737488351232 := by
            show t'.toArray.size ≤ _
            simp [toB] at hl hlen ⊢; omega
          rcases htag with rfl | rfl
          · exact Ev.neg (by decide) (Ev.pos rfl (Ev.bind (Ev.from_ 6 fun k => check_code k _ _ _ _ hs) Ev.pure))
          · exact Ev.pos rfl (Ev.pos rfl (Ev.bind (Ev.from_ 6 fun k => check_code k _ _ _ _ hs) Ev.pure))
    by_cases h5 : t = 5
    · rw [if_pos (.inl h5)]
      refine Ev.pos h5 ?_
      have e : (t == 5) = true := by simp [h5]
      rw [e]
      exact hj t (.inl h5)
    refine Ev.neg h5 ?_
    by_cases h6 : t = 6
    · rw [if_pos (.inr h6)]
      have e : (t == 6) = true := by simp [h6]
      rw [e]
      exact hj t (.inr h6)
    · rw [if_neg (by omega)]
      have e : (t == 6) = false := by simp [h6]
      rw [e]
      refine Ev.from_ 1 fun k => ?_
      simp only [code_get.j0]
      rw [if_neg (by decide)]
      rfl
abbrev G6 := Int × Int × Nat × ByteArray × ByteArray × Bool
def valOf (r : G6) : S50 := ⟨r.1, r.2.1, r.2.2.1, r.2.2.2.1⟩
theorem noText : (⟨#[]⟩ : ByteArray).toList = [] := by decide +kernel
theorem noText_of {d : ByteArray} (h : d.toList = []) : d = (⟨#[]⟩ : ByteArray) := by
  rw [Lib.toList_data] at h
  apply Go.WideShapes.bytes_inj
  rw [h]
theorem chk_fields {a b : Int} {c : Nat} {d : ByteArray} (h : chk a b c d = 0) :
    (0 ≤ a ∧ a ≤ 5) ∧ (a = 1 → b = 0 ∨ b = 1) ∧ (a ≠ 1 → a ≠ 2 → b = 0) ∧ (a ≠ 3 → c = 0) ∧ (a ≠ 4 → a ≠ 5 → d = (⟨#[]⟩ : ByteArray)) ∧ (a = 4 → Lib.validD d.data.toList = true) ∧ d.size ≤ 65536 := by
  have h0 := chk_ok h
  unfold chk at h
  split at h
  · cases h
  · rename_i hn
    refine ⟨h0.1, fun e => ?_, fun e1 e2 => ?_, fun e => ?_, fun e1 e2 => ?_, fun e => ?_, h0.2⟩
    · by_cases b0 : b = 0
      · exact .inl b0
      · by_cases b1 : b = 1
        · exact .inr b1
        · exact absurd (.inr (.inr (.inl ⟨e, b0, b1⟩))) hn
    · by_cases b0 : b = 0
      · exact b0
      · exact absurd (.inr (.inr (.inr (.inl ⟨e1, e2, b0⟩)))) hn
    · by_cases c0 : c = 0
      · exact c0
      · exact absurd (.inr (.inr (.inr (.inr (.inl ⟨e, c0⟩))))) hn
    · by_cases d0 : d.toList = []
      · exact noText_of d0
      · exact absurd (.inr (.inr (.inr (.inr (.inr (.inl ⟨e1, e2, d0⟩)))))) hn
    · cases hv : Lib.validD d.data.toList
      · exact absurd (.inr (.inr (.inr (.inr (.inr (.inr ⟨e, hv⟩)))))) hn
      · rfl
theorem chk_plain {a b : Int} (ha : a = 0 ∨ a = 1 ∨ a = 2 ∨ a = 3) (c : Nat) (h1 : a = 1 → b = 0 ∨ b = 1) (h2 : a ≠ 1 → a ≠ 2 → b = 0) (h3 : a ≠ 3 → c = 0) : chk a b c (⟨#[]⟩ : ByteArray) = 0 := by
  unfold chk
  rw [if_neg]
  · rw [if_neg]; show ¬ ((0 : Nat) : Int) > 65536; omega
  · rw [noText]
    rintro (h | h | ⟨h, g1, g2⟩ | ⟨g1, g2, h⟩ | ⟨g, h⟩ | ⟨_, _, h⟩ | ⟨h, _⟩)
    · omega
    · omega
    · rcases h1 h with h | h <;> omega
    · exact h (h2 g1 g2)
    · exact h (h3 g)
    · exact h rfl
    · omega
theorem wf_of {a b : Int} {c : Nat} {d : ByteArray} (ha : 0 ≤ a ∧ a ≤ 5) (hb : (Lit.int .i64 b).wf = true) (hc : c < 18446744073709551616) (hd : d.size ≤ 140737488351232) : wf50 ⟨a, b, c, d⟩ := by
  refine ⟨?_, hb, hc, hd⟩
  simpa [Lit.wf, IntKind.min, IntKind.max, IntKind.signed, IntKind.bits] using (show -9223372036854775808 ≤ a ∧ a ≤ 9223372036854775807 by omega)
theorem lit_small {b : Int} (h : 0 ≤ b ∧ b ≤ 1) : (Lit.int .i64 b).wf = true := by
  simpa [Lit.wf, IntKind.min, IntKind.max, IntKind.signed, IntKind.bits] using (show -9223372036854775808 ≤ b ∧ b ≤ 9223372036854775807 by omega)
theorem got_sound {L : List Int} (hL : Bytes L) (hlen : L.length ≤ 1000000) (hok : (got L).2.2.2.2.2 = true) :
    ∃ R, L = codeOf (valOf (got L)) ++ R ∧ (got L).2.2.2.2.1 = strOfNums R ∧ Told (valOf (got L)) := by
  cases L with
  | nil => simp [got, zeroG] at hok
  | cons t M =>
    have hM := hL.tail
    by_cases h1 : t = 1
    · subst h1
      have e : got (1 :: M) = (0, 0, 0, (⟨#[]⟩ : ByteArray), strOfNums M, true) := by simp [got]
      rw [e]
      refine ⟨M, by simp [codeOf, codeV, valOf], rfl, ?_⟩
      show Told (⟨0, 0, 0, (⟨#[]⟩ : ByteArray)⟩ : S50)
      exact ⟨chk_plain (.inl rfl) 0 (by decide) (fun _ _ => rfl) (fun _ => rfl), wf_of (by decide) (by decide) (by decide) (by decide), by simp⟩
    by_cases h2 : t = 2
    · subst h2
      cases M with
      | nil => simp [got, zeroG] at hok
      | cons b M' =>
        have hb := hM b (by simp)
        by_cases h3 : b > 1
        · simp [got, zeroG, h3] at hok
        · have e : got (2 :: b :: M') = (1, b, 0, (⟨#[]⟩ : ByteArray), strOfNums M', true) := by simp [got, h3]
          rw [e]
          refine ⟨M', ?_, rfl, ?_⟩
          rotate_left
          · show Told (⟨1, b, 0, (⟨#[]⟩ : ByteArray)⟩ : S50)
            exact ⟨chk_plain (.inr (.inl rfl)) 0 (fun _ => by show b = 0 ∨ b = 1; omega) (fun h => absurd rfl h) (fun _ => rfl), wf_of (by decide) (lit_small (by omega)) (by decide) (by decide), by simp⟩
          have : b % 256 = b := by omega
          simp [codeOf, codeV, valOf, this]
    by_cases h3 : t = 3
    · subst h3
      have e : got (3 :: M) = gotInt M := by simp [got]
      rw [e] at hok ⊢
      unfold gotInt at hok ⊢
      cases hr : rawInt M with
      | none => rw [hr] at hok; simp [zeroG] at hok
      | some p =>
        obtain ⟨m, b, k⟩ := p
        rw [hr] at hok
        simp only at hok ⊢
        by_cases hf : fitsRaw m b k = true ∧ m ≤ 9223372036854775807
        · rw [if_pos hf]
          obtain ⟨hw, hs⟩ := raw_sound hM hr hf.1 hf.2
          refine ⟨M.drop (k + 1), ?_, rfl, ?_⟩
          rotate_left
          · show Told (⟨2, intOfRaw m b, 0, (⟨#[]⟩ : ByteArray)⟩ : S50)
            exact ⟨chk_plain (.inr (.inr (.inl rfl))) 0 (fun h => absurd (show (2 : Int) = 1 from h) (by decide)) (fun _ h => absurd rfl h) (fun _ => rfl), wf_of (by decide) hw (by decide) (by decide), by simp⟩
          show (3 : Int) :: M = codeV 2 (intOfRaw m b) 0 (⟨#[]⟩ : ByteArray) ++ M.drop (k + 1)
          have ec : codeV 2 (intOfRaw m b) 0 (⟨#[]⟩ : ByteArray) = 3 :: codeInt (intOfRaw m b) := by simp [codeV]
          rw [ec, List.cons_append, ← hs]
        · rw [if_neg hf] at hok; simp [zeroG] at hok
    by_cases h4 : t = 4
    · subst h4
      have e : got (4 :: M) = gotFloat M := by simp [got]
      rw [e] at hok ⊢
      unfold gotFloat at hok ⊢
      by_cases h : M.length < 8
      · rw [if_pos h] at hok; simp [zeroG] at hok
      · rw [if_neg h] at hok ⊢
        have hp : plainF (floatOf (M.take 8)) = floatOf (M.take 8) := by simpa using hok
        have hl : (M.take 8).length = 8 := by rw [List.length_take]; omega
        refine ⟨M.drop 8, ?_, rfl, ?_⟩
        rotate_left
        · show Told (⟨3, 0, floatOf (M.take 8), (⟨#[]⟩ : ByteArray)⟩ : S50)
          exact ⟨chk_plain (.inr (.inr (.inr rfl))) _ (fun h => absurd (show (3 : Int) = 1 from h) (by decide)) (fun _ _ => rfl) (fun h => absurd rfl h), wf_of (by decide) (by decide) (floatOf_lt (hM.take 8) hl) (by decide), fun _ => hp⟩
        show (4 : Int) :: M = codeV 3 0 (floatOf (M.take 8)) (⟨#[]⟩ : ByteArray) ++ M.drop 8
        have ec : codeV 3 0 (floatOf (M.take 8)) (⟨#[]⟩ : ByteArray) = 4 :: codeBits (plainF (floatOf (M.take 8))) := by simp [codeV]
        rw [ec, hp, floatOf_code (hM.take 8) hl, List.cons_append, List.take_append_drop]
    by_cases h5 : t = 5 ∨ t = 6
    · have e : got (t :: M) = gotText t M := by simp only [got]; rw [if_neg h1, if_neg h2, if_neg h3, if_neg h4, if_pos h5]
      rw [e] at hok ⊢
      unfold gotText at hok ⊢
      cases hto : textOff [] (toB M) with
      | none => rw [hto] at hok; simp at hok
      | some p =>
        obtain ⟨u, r⟩ := p
        rw [hto] at hok
        simp only at hok ⊢
        have hc : chk (t - 1) 0 0 ⟨u.toArray⟩ = 0 := by simpa using hok
        obtain ⟨u', hu, hs⟩ := text_sound (toB M).length (toB M) [] u r (Nat.le_refl _) hto
        simp at hu
        subst hu
        rw [nat_toB hM] at hs
        have hf := chk_fields hc
        refine ⟨r.map fun b => (b.toNat : Int), ?_, ?_, ?_⟩
        rotate_left
        rotate_left
        · show Told (⟨t - 1, 0, 0, ⟨u.toArray⟩⟩ : S50)
          exact ⟨hc, wf_of hf.1 (by decide) (by decide) (Nat.le_trans hf.2.2.2.2.2.2 (by decide)), fun h => by have : t - 1 = 3 := h; omega⟩
        · show t :: M = codeV (t - 1) 0 0 ⟨u.toArray⟩ ++ _
          have ec : codeV (t - 1) 0 0 ⟨u.toArray⟩ = t :: codeText u := by
            rcases h5 with rfl | rfl
            · simp [codeV]
            · simp [codeV]
          rw [ec, List.cons_append, ← hs]
        · show (⟨r.toArray⟩ : ByteArray) = _
          rw [← str_toB, toB_nat]
    · have e : got (t :: M) = zeroG := by simp only [got]; rw [if_neg h1, if_neg h2, if_neg h3, if_neg h4, if_neg h5]
      rw [e] at hok
      simp [zeroG] at hok
theorem got_complete {v : S50} (hv : Told v) {R : List Int} (hT : Tail R) (hR : Bytes R) : got (codeOf v ++ R) = tup v R := by
  obtain ⟨a, b, c, d⟩ := v
  obtain ⟨hok, ⟨_, w1, w2, w3⟩, hp⟩ := hv
  have hf := chk_fields hok
  obtain ⟨ha, f1, f2, f3, f4, f5, f6⟩ := hf
  simp only at ha f1 f2 f3 f4 f5 f6 w1 w2 w3 hp
  by_cases h0 : a = 0
  · subst h0
    obtain rfl := f2 (by decide) (by decide)
    obtain rfl := f3 (by decide)
    obtain rfl := f4 (by decide) (by decide)
    simp [codeOf, codeV, got, tup]
  by_cases h1 : a = 1
  · subst h1
    obtain rfl := f3 (by decide)
    obtain rfl := f4 (by decide) (by decide)
    have hb : b % 256 = b := by rcases f1 rfl with h | h <;> omega
    have hb1 : ¬ b > 1 := by rcases f1 rfl with h | h <;> omega
    simp [codeOf, codeV, hb, got, hb1, tup]
  by_cases h2 : a = 2
  · subst h2
    obtain rfl := f3 (by decide)
    obtain rfl := f4 (by decide) (by decide)
    obtain ⟨m, k, e1, e2, e3, e4, e5⟩ := raw_complete w1 R
    have ec : codeOf ⟨2, b, 0, (⟨#[]⟩ : ByteArray)⟩ = 3 :: codeInt b := by simp [codeOf, codeV]
    rw [ec, List.cons_append]
    have eg : got (3 :: (codeInt b ++ R)) = gotInt (codeInt b ++ R) := by simp [got]
    rw [eg]
    unfold gotInt
    rw [e1]
    simp only
    rw [if_pos ⟨e3, e4⟩, e2]
    have ed : (codeInt b ++ R).drop (k + 1) = R := by rw [← e5]; simp
    rw [ed]
    rfl
  by_cases h3 : a = 3
  · subst h3
    obtain rfl := f2 (by decide) (by decide)
    obtain rfl := f4 (by decide) (by decide)
    have hpc := hp rfl
    have ec : codeOf ⟨3, 0, c, (⟨#[]⟩ : ByteArray)⟩ = 4 :: codeBits c := by simp [codeOf, codeV, hpc]
    rw [ec, List.cons_append]
    have eg : got (4 :: (codeBits c ++ R)) = gotFloat (codeBits c ++ R) := by simp [got]
    rw [eg]
    unfold gotFloat
    have h8 := codeBits_length c
    rw [if_neg (by simp [h8])]
    have e1 : (codeBits c ++ R).take 8 = codeBits c := by rw [List.take_append_of_le_length (by omega), List.take_of_length_le (by omega)]
    have e2 : (codeBits c ++ R).drop 8 = R := by rw [← h8]; simp
    rw [e1, e2, codeBits_float w2, hpc]
    simp [tup]
  have hbc : b = 0 := f2 h1 h2
  have hcc : c = 0 := f3 h3
  subst hbc hcc
  have h45 : a = 4 ∨ a = 5 := by omega
  have ec : codeOf ⟨a, 0, 0, d⟩ = (a + 1) :: codeText d.data.toList := by
    rcases h45 with rfl | rfl <;> simp [codeOf, codeV]
  rw [ec, List.cons_append]
  have eg : got ((a + 1) :: (codeText d.data.toList ++ R)) = gotText (a + 1) (codeText d.data.toList ++ R) := by
    simp only [got]
    rw [if_neg (by omega), if_neg (by omega), if_neg (by omega), if_neg (by omega), if_pos (by omega)]
  rw [eg]
  unfold gotText
  rw [text_complete _ _ _ hT hR]
  simp only [List.nil_append]
  have e1 : a + 1 - 1 = a := by omega
  have e2 : (⟨d.data.toList.toArray⟩ : ByteArray) = d := by cases d; simp
  have hok' : chk a 0 0 d = 0 := hok
  rw [e1, e2, str_toB, hok']
  simp [tup]
theorem codeOf_pos (v : S50) : 1 ≤ (codeOf v).length := by
  obtain ⟨a, l, e, _⟩ := codeOf_head v
  rw [e]; simp
/-- What Decode of the program tells: a refusal, or the values whose key this is. -/
theorem decode_total : ∀ (n : Nat) (L : List Int) (acc : List S50), L.length ≤ n → Bytes L → acc.length + L.length ≤ 2000 →
    ∃ r : List S50 × Int, Ev (fun k => code_Decode.l0 k (strOfNums L) acc) r ∧ (r = ([], 20) ∨ ∃ vs, (∀ v ∈ vs, Told v) ∧ L = flat vs ∧ r = (acc ++ vs, 0))
  | n, [], acc, _, _, _ => by
    refine ⟨(acc, 0), Ev.from_ 1 fun k => ?_, .inr ⟨[], by simp, rfl, by simp⟩⟩
    simp only [code_Decode.l0]
    rw [if_neg (by rw [str_size]; simp)]
  | 0, t :: M, acc, h, _, _ => by simp at h
  | n + 1, t :: M, acc, h, hL, hb => by
    have hg := get_ev (t :: M) hL (by simp) (by simp at hb ⊢; omega)
    have step : ∀ k, code_Decode.l0 (k + 1) (strOfNums (t :: M)) acc = (code_get.f k (strOfNums (t :: M))).bind fun bt499 => (if bt499.2.2.2.2.2 = true then (if acc.length < 3518437208883 then (code_Decode.l0 k bt499.2.2.2.2.1 (acc ++ [(⟨bt499.1, bt499.2.1, bt499.2.2.1, bt499.2.2.2.1⟩ : S50)])) else (none)) else (some (([] : List (S50)), 20))) := by
      intro k
      simp only [code_Decode.l0]
      rw [if_pos (by rw [str_size]; simp only [List.length_cons]; omega)]
    cases hok : (got (t :: M)).2.2.2.2.2 with
    | false => exact ⟨([], 20), Ev.step step (Ev.bind hg (Ev.neg (by rw [hok]; decide) Ev.pure)), .inl rfl⟩
    | true =>
      obtain ⟨R, e1, e2, e3⟩ := got_sound hL (by simp at hb ⊢; omega) hok
      have hpos := codeOf_pos (valOf (got (t :: M)))
      have hlen : (t :: M).length = (codeOf (valOf (got (t :: M)))).length + R.length := by rw [← List.length_append, ← e1]
      have hRb : Bytes R := (Bytes.app (by rw [← e1]; exact hL)).2
      obtain ⟨r, hr, hcase⟩ := decode_total n R (acc ++ [valOf (got (t :: M))]) (by simp at h hlen ⊢; omega) hRb (by simp at hb hlen ⊢; omega)
      refine ⟨r, Ev.step step (Ev.bind hg (Ev.pos hok (Ev.pos (by omega) ?_))), ?_⟩
      · rw [e2]; exact hr
      · rcases hcase with h1 | ⟨vs, h1, h2, h3⟩
        · exact .inl h1
        · refine .inr ⟨valOf (got (t :: M)) :: vs, ?_, ?_, ?_⟩
          · intro v hv
            rcases List.mem_cons.1 hv with rfl | hv
            · exact e3
            · exact h1 v hv
          · rw [flat_cons, ← h2]; exact e1
          · rw [h3]; simp
theorem decode_flat : ∀ (vs acc : List S50), (∀ v ∈ vs, Told v) → acc.length + (flat vs).length ≤ 2000 → Ev (fun k => code_Decode.l0 k (strOfNums (flat vs)) acc) (acc ++ vs, 0)
  | [], acc, _, _ => by
    refine Ev.from_ 1 fun k => ?_
    simp only [code_Decode.l0]
    rw [if_neg (by rw [str_size]; simp [flat])]
    simp
  | v :: vs, acc, hv, hb => by
    have hw : ∀ x ∈ vs, wf50 x := fun x hx => (hv x (by simp [hx])).wf
    have hpos := codeOf_pos v
    rw [flat_cons] at hb ⊢
    simp at hb
    have hbs : Bytes (codeOf v ++ flat vs) := by
      intro x hx
      rcases List.mem_append.1 hx with h | h
      · exact codeOf_bytes (hv v (by simp)).wf x h
      · exact flat_bytes hw x h
    have hg := get_ev (codeOf v ++ flat vs) hbs (by intro e; rw [List.append_eq_nil_iff] at e; rw [e.1] at hpos; simp at hpos) (by simp; omega)
    rw [got_complete (hv v (by simp)) (flat_tail vs) (flat_bytes hw)] at hg
    have ih := decode_flat vs (acc ++ [v]) (fun x hx => hv x (by simp [hx])) (by simp; omega)
    refine Ev.step (g := fun k => (code_get.f k (strOfNums (codeOf v ++ flat vs))).bind fun bt499 => (if bt499.2.2.2.2.2 = true then (if acc.length < 3518437208883 then (code_Decode.l0 k bt499.2.2.2.2.1 (acc ++ [(⟨bt499.1, bt499.2.1, bt499.2.2.1, bt499.2.2.2.1⟩ : S50)])) else (none)) else (some (([] : List (S50)), 20)))) (fun k => ?_) ?_
    · simp only [code_Decode.l0]
      rw [if_pos (by rw [str_size]; simp; omega)]
    · refine Ev.bind hg (Ev.pos rfl (Ev.pos (by omega) ?_))
      simpa [tup] using ih
abbrev G5 := Int × Int × Nat × ByteArray × Int
def bkInt (M : List Int) : G5 := match rawInt M with
  | none => (2, 0, 0, (⟨#[]⟩ : ByteArray), 0)
  | some (m, b, k) => if 9223372036854775808 ≤ m then (2, 0, 0, (⟨#[]⟩ : ByteArray), 0) else (2, intOfRaw m b, 0, (⟨#[]⟩ : ByteArray), ((2 + k : Nat) : Int))
def bkText (t : Int) (M : List Int) : G5 := match textOff [] (toB M) with
  | none => (t - 1, 0, 0, (⟨#[]⟩ : ByteArray), 0)
  | some (u, r) => (t - 1, 0, 0, ⟨u.toArray⟩, (1 + M.length : Int) - r.length)
/-- What the reference reads off the begin of a key, and how many bytes it has; 0: nothing. -/
def bk : List Int → G5
  | [] => (0, 0, 0, (⟨#[]⟩ : ByteArray), 0)
  | t :: M =>
    if t = 1 then (0, 0, 0, (⟨#[]⟩ : ByteArray), 1)
    else if t = 2 then (match M with | [] => (1, 0, 0, (⟨#[]⟩ : ByteArray), 0) | b :: _ => if b < 2 then (1, b, 0, (⟨#[]⟩ : ByteArray), 2) else (1, 0, 0, (⟨#[]⟩ : ByteArray), 0))
    else if t = 3 then bkInt M
    else if t = 4 then (if M.length < 8 then (3, 0, 0, (⟨#[]⟩ : ByteArray), 0) else (3, 0, floatOf (M.take 8), (⟨#[]⟩ : ByteArray), 9))
    else if t = 5 ∨ t = 6 then bkText t M
    else (t - 1, 0, 0, (⟨#[]⟩ : ByteArray), 0)
theorem str_map (u : List UInt8) : strOfNums (u.map fun b => (b.toNat : Int)) = ⟨u.toArray⟩ := by rw [← str_toB, toB_nat]
theorem ofNat_int {a : Int} (h : 0 ≤ a ∧ a ≤ 255) : (((UInt8.ofNat a.toNat).toNat : Nat) : Int) = a := by rw [ofNat_toNat h]; omega
theorem wrap_succ (i : Nat) (h : i < 1000000000) : wrap64 ((i : Int) + 1) = ((i + 1 : Nat) : Int) := by rw [wrap64_id (by omega) (by omega)]; omega
theorem bk_step (k : Nat) (s : ByteArray) (acc : List Int) (i x j : Int) (a b : Int) (c : Nat) (d : ByteArray) (h1 : i < (s.size : Int)) (h0 : 0 ≤ i) (hb : bt s i = x) (hx : ¬ x = 0) (hal : acc.length < 140737488355328) (hw : wrap64 (i + 1) = j) :
    vellumref02_back.l0 (k + 1) s acc i a b c d = vellumref02_back.l0 k s (acc ++ [x]) j a b c d := by
  simp only [vellumref02_back.l0, hb, hw]
  rw [if_pos h1, if_pos h0, if_neg hx, if_pos hal]
set_option maxHeartbeats 2000000 in
theorem bk_text_ev (L : List Int) (hL : Bytes L) (hlen : L.length ≤ 1000000) (a b : Int) (c : Nat) (d : ByteArray) : ∀ (n i : Nat) (acc : List UInt8) (M : List Int), M.length ≤ n → L.drop i = M → i ≤ L.length → acc.length ≤ i →
    Ev (fun k => vellumref02_back.l0 k (strOfNums L) (acc.map fun b => (b.toNat : Int)) (i : Int) a b c d) (match textOff acc (toB M) with | none => (a, b, c, d, 0) | some (u, r) => (a, b, c, (⟨u.toArray⟩ : ByteArray), (L.length : Int) - r.length))
  | n, i, acc, [], _, hd, hi, hacc => by
    have h : L.length ≤ i := List.drop_eq_nil_iff.1 hd
    refine Ev.from_ 1 fun k => ?_
    simp only [vellumref02_back.l0]
    rw [if_neg (by rw [str_size]; omega)]
    simp [toB, textOff]
  | 0, i, acc, b0 :: M, hn, _, _, _ => by simp at hn
  | n + 1, i, acc, b0 :: M, hn, hd, hi, hacc => by
    have hlt : i < L.length := by
      rcases Nat.lt_or_ge i L.length with h | h
      · exact h
      · rw [List.drop_of_length_le h] at hd; cases hd
    have hal : (acc.map fun (b : UInt8) => (b.toNat : Int)).length < 140737488355328 := by rw [List.length_map]; omega
    have i1 : (i : Int) < ((strOfNums L).size : Int) := by rw [str_size]; omega
    have i0 : (0 : Int) ≤ (i : Int) := by omega
    have hget : L[i] = b0 := by
      have := List.drop_eq_getElem_cons hlt
      rw [hd] at this
      injection this with h _
      exact h.symm
    have hd1 : L.drop (i + 1) = M := by
      have := List.drop_eq_getElem_cons hlt
      rw [hd] at this
      injection this with _ h
      exact h.symm
    have hlM : i + 1 + M.length = L.length := by
      have := congrArg List.length hd1
      rw [List.length_drop] at this
      omega
    have hb0 := hL b0 (by rw [← hget]; exact List.getElem_mem hlt)
    have hbt : bt (strOfNums L) (i : Int) = b0 := by rw [str_bt hL i hlt]; exact hget
    have hw := fun _ : True => wrap_succ i (by omega)
    have hw2 := fun _ : True => wrap_succ (i + 1) (by omega)
    have hsz : ((strOfNums L).size : Int) = (L.length : Int) := by rw [str_size]
    by_cases h0 : b0 = 0
    · subst h0
      cases M with
      | nil =>
        refine Ev.from_ 1 fun k => ?_
        simp only [vellumref02_back.l0, hbt, hw trivial, hsz]
        simp at hlM
        rw [if_pos (by omega), if_pos (by omega), if_pos trivial, if_pos (by omega), str_map]
        have e : textOff acc (toB [0]) = some (acc, []) := by
          show textOff acc [0] = _
          exact textOff_zero (fun l' h => by cases h)
        rw [e]
        simp
        omega
      | cons b1 M2 =>
        simp at hlM
        have hlt1 : i + 1 < L.length := by omega
        have hget1 : L[i + 1] = b1 := by
          have := List.drop_eq_getElem_cons hlt1
          rw [hd1] at this
          injection this with h _
          exact h.symm
        have hd2 : L.drop (i + 2) = M2 := by
          have := List.drop_eq_getElem_cons hlt1
          rw [hd1] at this
          injection this with _ h
          exact h.symm
        have hb1 := hL b1 (by rw [← hget1]; exact List.getElem_mem hlt1)
        have hbt1 : bt (strOfNums L) ((i + 1 : Nat) : Int) = b1 := by rw [str_bt hL (i + 1) hlt1]; exact hget1
        by_cases h255 : b1 = 255
        · subst h255
          have e : textOff acc (toB (0 :: 255 :: M2)) = textOff (acc ++ [0]) (toB M2) := by
            show textOff acc (0 :: 255 :: toB M2) = _
            rw [textOff]
          rw [e]
          refine Ev.step (g := fun k => vellumref02_back.l0 k (strOfNums L) ((acc ++ [(0 : UInt8)]).map fun (b : UInt8) => (b.toNat : Int)) ((i + 2 : Nat) : Int) a b c d) (fun k => ?_) (bk_text_ev L hL hlen a b c d n (i + 2) (acc ++ [(0 : UInt8)]) M2 (by simp at hn; omega) hd2 (by omega) (by simp; omega))
          simp only [vellumref02_back.l0, hbt, hw trivial, hsz, hbt1, hw2 trivial]
          rw [if_pos (by omega), if_pos (by omega), if_pos trivial, if_neg (by omega), if_pos (by omega), if_pos (by omega), if_pos trivial, if_pos (by simp; omega), List.map_append]
          rfl
        · have e : textOff acc (toB (0 :: b1 :: M2)) = some (acc, toB (b1 :: M2)) := by
            show textOff acc (0 :: toB (b1 :: M2)) = _
            refine textOff_zero (fun l' h => ?_)
            simp only [toB, List.map_cons, List.cons.injEq] at h
            have e2 := congrArg UInt8.toNat h.1
            rw [ofNat_toNat hb1] at e2
            have : (255 : UInt8).toNat = 255 := rfl
            omega
          rw [e]
          refine Ev.from_ 1 fun k => ?_
          simp only [vellumref02_back.l0, hbt, hw trivial, hsz, hbt1]
          rw [if_pos (by omega), if_pos (by omega), if_pos trivial, if_neg (by omega), if_pos (by omega), if_pos (by omega), if_neg h255, str_map]
          simp [toB]
          omega
    · have hne : UInt8.ofNat b0.toNat ≠ 0 := by
        intro h
        have e2 := congrArg UInt8.toNat h
        rw [ofNat_toNat hb0] at e2
        have : (0 : UInt8).toNat = 0 := rfl
        omega
      have e : textOff acc (toB (b0 :: M)) = textOff (acc ++ [UInt8.ofNat b0.toNat]) (toB M) := by
        show textOff acc (UInt8.ofNat b0.toNat :: toB M) = _
        exact textOff_ne hne
      rw [e]
      clear e hne
      refine Ev.step (g := fun k => vellumref02_back.l0 k (strOfNums L) ((acc ++ [UInt8.ofNat b0.toNat]).map fun (b : UInt8) => (b.toNat : Int)) ((i + 1 : Nat) : Int) a b c d) (fun k => ?_) (bk_text_ev L hL hlen a b c d n (i + 1) (acc ++ [UInt8.ofNat b0.toNat]) M (Nat.le_of_succ_le_succ hn) hd1 hlt (by rw [List.length_append]; exact Nat.succ_le_succ hacc))
      rw [bk_step k (strOfNums L) _ (i : Int) b0 ((i + 1 : Nat) : Int) a b c d i1 i0 hbt h0 hal (hw trivial)]
      have : (((UInt8.ofNat b0.toNat).toNat : Nat) : Int) = b0 := ofNat_int hb0
      simp only [List.map_append, List.map_cons, List.map_nil, this]
theorem back_int_ev (h : Int) (M : List Int) (hL : Bytes (3 :: h :: M)) (hlen : M.length ≤ 1000000) : Ev (fun k => vellumref02_back.j1 k (strOfNums (3 :: h :: M)) true 2 0 0 (⟨#[]⟩ : ByteArray)) (bkInt (h :: M)) := by
  have hh := hL h (by simp)
  have hM : Bytes M := hL.tail.tail
  have hsz : ((strOfNums (3 :: h :: M)).size : Int) = 2 + (M.length : Int) := by rw [str_size]; simp only [List.length_cons]; omega
  have hbt : bt (strOfNums (3 :: h :: M)) 1 = h := str_bt hL 1 (by simp)
  have z64 : ∀ {x : Int}, -1000 ≤ x → x ≤ 10000000 → wrap64 x = x := fun h1 h2 => wrap64_id (by omega) (by omega)
  have e1 : wrap64 (wrap64 h - 128) = h - 128 := by rw [z64 (x := h) (by omega) (by omega), z64 (by omega) (by omega)]
  have e2 : wrap64 (-(h - 128)) = -(h - 128) := z64 (by omega) (by omega)
  -- the rest, from the number of bytes on
  have rest : ∀ k : Nat, (h - 128).natAbs = k → Ev (fun q => vellumref02_back.j2 q (strOfNums (3 :: h :: M)) (h - 128) (k : Int) 2 0 0 (⟨#[]⟩ : ByteArray)) (bkInt (h :: M)) := by
    intro k hk
    unfold bkInt
    simp only [rawInt, hk]
    by_cases h8 : 8 < k
    · rw [if_pos (.inl h8)]
      refine Ev.from_ 2 fun q => ?_
      simp only [vellumref02_back.j2, vellumref02_back.j3]
      rw [if_pos (by omega), if_pos trivial]
    have e3' : True → wrap64 (2 + (k : Int)) = ((2 + k : Nat) : Int) := fun _ => by rw [z64 (by omega) (by omega)]; omega
    by_cases hlen2 : M.length < k
    · rw [if_pos (.inr hlen2)]
      refine Ev.from_ 2 fun q => ?_
      simp only [vellumref02_back.j2, vellumref02_back.j3, e3' trivial, hsz]
      rw [if_neg (by omega), if_pos (decide_eq_true (by omega))]
    rw [if_neg (by omega)]
    have hl : (M.take k).length = k := by rw [List.length_take]; omega
    have hn := num_range (hM.take k)
    rw [hl] at hn
    have hpk : (256 : Int) ^ k ≤ 18446744073709551616 := by
      have h1 : (256 : Nat) ^ k ≤ 256 ^ 8 := Nat.pow_le_pow_right (by decide) (by omega)
      have h2 : ((256 ^ k : Nat) : Int) = (256 : Int) ^ k := by simp
      omega
    have hx : (strOfNums (3 :: h :: M)).extract 2 (((2 + k : Nat) : Int)).toNat = strOfNums (M.take k) := by
      rw [str_take]
      congr 1
      simp
      congr 1
      omega
    have hnum := number_ref_ev (M.take k) (hM.take k) (by omega)
    generalize num (M.take k) = t at hn hnum ⊢
    refine Ev.step (g := fun q => vellumref02_back.j3 q (strOfNums (3 :: h :: M)) (h - 128) (k : Int) false 2 0 0 (⟨#[]⟩ : ByteArray)) (fun q => ?_) ?_
    · simp only [vellumref02_back.j2, e3' trivial, hsz]
      rw [if_neg (by omega), decide_eq_false (by omega)]
    refine Ev.step (g := fun q => (vellumref02_number.f q (strOfNums (M.take k))).bind fun t511 => (if h - 128 < 0 then (if 0 ≤ (IntKind.u64.wrap (wrap64 (8 * (k : Int)))) then (vellumref02_back.j4 q (h - 128) (k : Int) (Go.bits .and .u64 (not64 t511) (IntKind.u64.wrap ((shl .u64 1 (IntKind.u64.wrap (wrap64 (8 * (k : Int))))) - 1))) 2 0 0 (⟨#[]⟩ : ByteArray)) else (none)) else (vellumref02_back.j4 q (h - 128) (k : Int) t511 2 0 0 (⟨#[]⟩ : ByteArray)))) (fun q => ?_) ?_
    · simp only [vellumref02_back.j3, e3' trivial, hsz, hx]
      rw [if_neg (by decide), if_pos (by omega), if_pos (by omega)]
    refine Ev.bind hnum ?_
    rw [show wrap64 (8 * (k : Int)) = 8 * (k : Int) from z64 (by omega) (by omega)]
    by_cases hneg : h < 128
    · have hk1 : 1 ≤ k := by omega
      refine Ev.pos (by omega) (Ev.pos (by rw [u64_wrap_id (by omega) (by omega)]; omega) ?_)
      rw [and_mask t k hn.1 hn.2 hk1 (by omega), if_pos hneg, decide_eq_true hneg]
      generalize hmm : (256 : Int) ^ k - 1 - t = m
      refine Ev.from_ 1 fun q => ?_
      simp only [vellumref02_back.j4, e3' trivial]
      by_cases hbig : 9223372036854775808 ≤ m
      · rw [if_pos (by omega), if_pos hbig]
      · rw [if_neg (by omega), if_neg hbig, if_pos (by omega), wrap64_id (n := m) (by omega) (by omega), wrap64_id (n := -m) (by omega) (by omega), wrap64_id (by omega) (by omega)]
        rfl
    · refine Ev.neg (by omega) ?_
      rw [if_neg hneg, decide_eq_false hneg]
      refine Ev.from_ 1 fun q => ?_
      simp only [vellumref02_back.j4, e3' trivial]
      by_cases hbig : 9223372036854775808 ≤ t
      · rw [if_pos (by omega), if_pos hbig]
      · rw [if_neg (by omega), if_neg hbig, if_neg (by omega), wrap64_id (n := t) (by omega) (by omega)]
        rfl
  by_cases hneg : h < 128
  · obtain ⟨k, hk⟩ : ∃ k : Nat, (k : Int) = -(h - 128) := ⟨(128 - h).toNat, by omega⟩
    refine Ev.step (g := fun q => vellumref02_back.j2 q (strOfNums (3 :: h :: M)) (h - 128) (k : Int) 2 0 0 (⟨#[]⟩ : ByteArray)) (fun q => ?_) (rest k (by omega))
    simp only [vellumref02_back.j1, hbt, e1, e2, hsz, hk]
    rw [if_pos trivial, if_pos (by omega), if_pos (by omega)]
  · obtain ⟨k, hk⟩ : ∃ k : Nat, (k : Int) = h - 128 := ⟨(h - 128).toNat, by omega⟩
    refine Ev.step (g := fun q => vellumref02_back.j2 q (strOfNums (3 :: h :: M)) (h - 128) (k : Int) 2 0 0 (⟨#[]⟩ : ByteArray)) (fun q => ?_) (rest k (by omega))
    simp only [vellumref02_back.j1, hbt, e1, hsz]
    rw [if_pos trivial, if_pos (by omega), if_neg (by omega), hk]
theorem back_ev (L : List Int) (hL : Bytes L) (hne : L ≠ []) (hlen : L.length ≤ 1000000) : Ev (fun k => vellumref02_back.f k (strOfNums L)) (bk L) := by
  cases L with
  | nil => exact absurd rfl hne
  | cons t M =>
    have hM := hL.tail
    have ht := hL t (by simp)
    have hb0 : bt (strOfNums (t :: M)) 0 = t := str_bt hL 0 (by simp)
    have hsz : ((strOfNums (t :: M)).size : Int) = 1 + (M.length : Int) := by rw [str_size]; simp only [List.length_cons]; omega
    have hw : wrap64 (wrap64 t - 1) = t - 1 := by rw [wrap64_id (n := t) (by omega) (by omega), wrap64_id (by omega) (by omega)]
    have hbt : ∀ b M', M = b :: M' → bt (strOfNums (t :: M)) 1 = b := by
      intro b M' e; subst e; exact str_bt hL 1 (by simp)
    simp only [vellumref02_back.f, hb0, hw, hsz]
    refine Ev.pos (by omega) ?_
    simp only [bk]
    by_cases h1 : t = 1
    · rw [if_pos h1]
      refine Ev.pos (by omega) ?_
      subst h1
      exact Ev.pure
    rw [if_neg h1]
    refine Ev.neg (by omega) ?_
    by_cases h2 : t = 2
    · rw [if_pos h2]
      refine Ev.pos (by omega) ?_
      subst h2
      cases M with
      | nil =>
        refine Ev.neg (by simp) (Ev.from_ 4 fun k => ?_)
        simp only [vellumref02_back.j0, vellumref02_back.j1, vellumref02_back.j5, vellumref02_back.j6]
        simp
      | cons b M' =>
        have hbb := hbt b M' rfl
        simp only [hbb, List.length_cons]
        refine Ev.pos (by omega) (Ev.pos (by omega) ?_)
        have hb := hM b (by simp)
        by_cases h3 : b < 2
        · rw [if_pos h3, decide_eq_true h3]
          refine Ev.from_ 1 fun k => ?_
          simp only [vellumref02_back.j0, hbb]
          rw [if_pos trivial, if_pos (by rw [hsz]; simp only [List.length_cons]; omega), wrap64_id (by omega) (by omega)]
          rfl
        · rw [if_neg h3, decide_eq_false h3]
          refine Ev.from_ 4 fun k => ?_
          simp only [vellumref02_back.j0, vellumref02_back.j1, vellumref02_back.j5, vellumref02_back.j6]
          simp
    rw [if_neg h2]
    refine Ev.neg (by omega) ?_
    by_cases h3 : t = 3
    · rw [if_pos h3]
      subst h3
      cases M with
      | nil =>
        refine Ev.from_ 4 fun k => ?_
        simp only [vellumref02_back.j0, vellumref02_back.j1, vellumref02_back.j5, vellumref02_back.j6, hsz]
        simp [bkInt, rawInt]
      | cons h M' =>
        refine Ev.step (g := fun k => vellumref02_back.j1 k (strOfNums (3 :: h :: M')) true 2 0 0 (⟨#[]⟩ : ByteArray)) (fun k => ?_) (back_int_ev h M' hL (by simp at hlen; omega))
        simp only [vellumref02_back.j0, hsz]
        rw [if_neg (by decide), if_pos (by decide), decide_eq_true (by simp only [List.length_cons]; omega)]
        rfl
    rw [if_neg h3]
    by_cases h4 : t = 4
    · rw [if_pos h4]
      subst h4
      by_cases h : M.length < 8
      · rw [if_pos h]
        refine Ev.from_ 4 fun k => ?_
        simp only [vellumref02_back.j0, vellumref02_back.j1, vellumref02_back.j5, vellumref02_back.j6, hsz]
        rw [if_neg (by decide), if_neg (by decide), if_neg (by decide), if_pos (by decide), if_neg (by simp; omega), if_neg (by decide), if_neg (by decide)]
        rfl
      · rw [if_neg h]
        have hl : (M.take 8).length = 8 := by rw [List.length_take]; omega
        have hr := num_range (hM.take 8)
        rw [hl] at hr
        have e : (256 : Int) ^ 8 = 18446744073709551616 := by decide
        have hx : (strOfNums (4 :: M)).extract 1 9 = strOfNums (M.take 8) := by rw [str_take]; rfl
        refine Ev.step (g := fun k => vellumref02_back.j1 k (strOfNums (4 :: M)) false 3 0 0 (⟨#[]⟩ : ByteArray)) (fun k => ?_) (Ev.step (g := fun k => vellumref02_back.j5 k (strOfNums (4 :: M)) true 3 0 0 (⟨#[]⟩ : ByteArray)) (fun k => ?_) (Ev.step (g := fun k => (vellumref02_number.f k (strOfNums (M.take 8))).bind fun t512 => (if (t512 / 9223372036854775808) > 0 then (some ((3 : Int), (0 : Int), (Go.bits .xor .u64 t512 9223372036854775808).toNat, (⟨#[]⟩ : ByteArray), (9 : Int))) else (some (3, 0, (not64 t512).toNat, (⟨#[]⟩ : ByteArray), 9)))) (fun k => ?_) ?_))
        · simp only [vellumref02_back.j0]
          rw [if_neg (by decide), if_neg (by decide)]
          rfl
        · simp only [vellumref02_back.j1, hsz]
          rw [if_neg (by decide), if_pos (by decide), decide_eq_true (by omega)]
        · simp only [vellumref02_back.j5, hsz, hx]
          rw [if_pos trivial, if_pos (by decide), if_pos (by omega)]
        · refine Ev.bind (number_ref_ev (M.take 8) (hM.take 8) (by omega)) ?_
          unfold floatOf
          by_cases hb : 9223372036854775808 ≤ num (M.take 8)
          · rw [if_pos hb, xor_down _ hb (by omega)]
            exact Ev.pos (by omega) Ev.pure
          · rw [if_neg hb, not64_eq _ (by omega) (by omega)]
            exact Ev.neg (by omega) Ev.pure
    rw [if_neg h4]
    by_cases h56 : t = 5 ∨ t = 6
    · rw [if_pos h56]
      have hgo := bk_text_ev (t :: M) hL hlen (t - 1) 0 0 (⟨#[]⟩ : ByteArray) M.length 1 [] M (Nat.le_refl _) rfl (by simp) (by simp)
      refine Ev.step (g := fun k => vellumref02_back.j1 k (strOfNums (t :: M)) false (t - 1) 0 0 (⟨#[]⟩ : ByteArray)) (fun k => ?_) (Ev.step (g := fun k => vellumref02_back.j5 k (strOfNums (t :: M)) false (t - 1) 0 0 (⟨#[]⟩ : ByteArray)) (fun k => ?_) (Ev.step (g := fun k => vellumref02_back.j6 k (strOfNums (t :: M)) true (t - 1) 0 0 (⟨#[]⟩ : ByteArray)) (fun k => ?_) (Ev.step (g := fun k => vellumref02_back.l0 k (strOfNums (t :: M)) ([] : List Int) 1 (t - 1) 0 0 (⟨#[]⟩ : ByteArray)) (fun k => ?_) ?_)))
      · simp only [vellumref02_back.j0]
        rw [if_neg (by decide), if_neg (by omega)]
      · simp only [vellumref02_back.j1]
        rw [if_neg (by decide), if_neg (by omega)]
      · simp only [vellumref02_back.j5]
        rw [if_neg (by decide)]
        rcases h56 with rfl | rfl
        · rw [if_pos (by decide)]
        · rw [if_neg (by decide)]; rfl
      · simp only [vellumref02_back.j6]
        rw [if_pos trivial]
      · have e : bkText t M = (match textOff [] (toB M) with | none => (t - 1, 0, 0, (⟨#[]⟩ : ByteArray), 0) | some (u, r) => (t - 1, 0, 0, (⟨u.toArray⟩ : ByteArray), ((t :: M).length : Int) - r.length)) := by
          unfold bkText
          cases textOff [] (toB M) with
          | none => rfl
          | some p => simp only [List.length_cons]; congr 4; omega
        rw [e]
        exact hgo
    · rw [if_neg h56]
      refine Ev.from_ 4 fun k => ?_
      simp only [vellumref02_back.j0, vellumref02_back.j1, vellumref02_back.j5, vellumref02_back.j6]
      have b5 : (t - 1 == 5) = false := by rw [beq_eq_false_iff_ne]; omega
      rw [if_neg (by decide), if_neg (by omega), if_neg (by decide), if_neg (by omega), if_neg (by decide), if_neg (by omega), b5, if_neg (by decide)]
def valB (r : G5) : S50 := ⟨r.1, r.2.1, r.2.2.1, r.2.2.2.1⟩
theorem lit_i64 {b : Int} (h0 : -9223372036854775808 ≤ b) (h1 : b ≤ 9223372036854775807) : (Lit.int .i64 b).wf = true := by
  simpa [Lit.wf, IntKind.min, IntKind.max, IntKind.signed, IntKind.bits] using And.intro h0 h1
theorem bk_fits {L : List Int} (hL : Bytes L) (hlen : L.length ≤ 1000000) : (bk L).2.2.2.2 = 0 ∨ ∃ n : Nat, (bk L).2.2.2.2 = (n : Int) ∧ 1 ≤ n ∧ n ≤ L.length ∧ wf50 (valB (bk L)) := by
  cases L with
  | nil => exact .inl rfl
  | cons t M =>
    have hM := hL.tail
    have ht := hL t (by simp)
    simp only [bk]
    by_cases h1 : t = 1
    · rw [if_pos h1]
      exact .inr ⟨1, rfl, Nat.le_refl _, by simp, wf_of (by decide) (by decide) (by decide) (by decide)⟩
    rw [if_neg h1]
    by_cases h2 : t = 2
    · rw [if_pos h2]
      cases M with
      | nil => exact .inl rfl
      | cons b M' =>
        have hb := hM b (by simp)
        by_cases h3 : b < 2
        · have e : (if b < 2 then ((1, b, 0, (⟨#[]⟩ : ByteArray), 2) : G5) else (1, 0, 0, (⟨#[]⟩ : ByteArray), 0)) = (1, b, 0, (⟨#[]⟩ : ByteArray), 2) := if_pos h3
          simp only [e]
          refine .inr ⟨2, rfl, by decide, by simp, ?_⟩
          show wf50 ⟨1, b, 0, (⟨#[]⟩ : ByteArray)⟩
          exact wf_of (by decide) (lit_small (by omega)) (by decide) (by decide)
        · have e : (if b < 2 then ((1, b, 0, (⟨#[]⟩ : ByteArray), 2) : G5) else (1, 0, 0, (⟨#[]⟩ : ByteArray), 0)) = (1, 0, 0, (⟨#[]⟩ : ByteArray), 0) := if_neg h3
          simp only [e]
          exact .inl trivial
    rw [if_neg h2]
    by_cases h3 : t = 3
    · rw [if_pos h3]
      unfold bkInt
      cases hr : rawInt M with
      | none => exact .inl rfl
      | some p =>
        obtain ⟨m, b, k⟩ := p
        have hrr := raw_range hM hr
        simp only
        by_cases hbig : 9223372036854775808 ≤ m
        · rw [if_pos hbig]; exact .inl rfl
        · rw [if_neg hbig]
          refine .inr ⟨2 + k, rfl, by omega, by simp only [List.length_cons]; omega, wf_of (by show (0 : Int) ≤ 2 ∧ (2 : Int) ≤ 5; decide) ?_ (by show 0 < 18446744073709551616; decide) (by show (⟨#[]⟩ : ByteArray).size ≤ _; decide)⟩
          show (Lit.int .i64 (intOfRaw m b)).wf = true
          unfold intOfRaw
          split <;> exact lit_i64 (by omega) (by omega)
    rw [if_neg h3]
    by_cases h4 : t = 4
    · rw [if_pos h4]
      by_cases h : M.length < 8
      · rw [if_pos h]; exact .inl rfl
      · rw [if_neg h]
        have hl : (M.take 8).length = 8 := by rw [List.length_take]; omega
        exact .inr ⟨9, rfl, by decide, by simp only [List.length_cons]; omega, wf_of (by show (0 : Int) ≤ 3 ∧ (3 : Int) ≤ 5; decide) (by show (Lit.int .i64 0).wf = true; decide) (floatOf_lt (hM.take 8) hl) (by show (⟨#[]⟩ : ByteArray).size ≤ _; decide)⟩
    rw [if_neg h4]
    by_cases h5 : t = 5 ∨ t = 6
    · rw [if_pos h5]
      unfold bkText
      cases hto : textOff [] (toB M) with
      | none => exact .inl rfl
      | some p =>
        obtain ⟨u, r⟩ := p
        have hl := textOff_len (toB M).length (toB M) [] u r (Nat.le_refl _) hto
        have hm : (toB M).length = M.length := by simp [toB]
        rw [hm] at hl
        simp only [List.length_nil, List.length_cons] at hl hlen ⊢
        refine .inr ⟨1 + M.length - r.length, by omega, by omega, by omega, wf_of (by show (0 : Int) ≤ t - 1 ∧ t - 1 ≤ 5; omega) (by show (Lit.int .i64 0).wf = true; decide) (by show 0 < 18446744073709551616; decide) ?_⟩
        show u.toArray.size ≤ _
        simp; omega
    · rw [if_neg h5]; exact .inl rfl
theorem bk_complete {v : S50} (hv : Told v) {R : List Int} (hT : Tail R) (hR : Bytes R) : bk (codeOf v ++ R) = (v.f0, v.f1, v.f2, v.f3, ((codeOf v).length : Int)) := by
  obtain ⟨a, b, c, d⟩ := v
  obtain ⟨hok, ⟨_, w1, w2, w3⟩, hp⟩ := hv
  have hf := chk_fields hok
  obtain ⟨ha, f1, f2, f3, f4, f5, f6⟩ := hf
  simp only at ha f1 f2 f3 f4 f5 f6 w1 w2 w3 hp
  by_cases h0 : a = 0
  · subst h0
    obtain rfl := f2 (by decide) (by decide)
    obtain rfl := f3 (by decide)
    obtain rfl := f4 (by decide) (by decide)
    simp [codeOf, codeV, bk]
  by_cases h1 : a = 1
  · subst h1
    obtain rfl := f3 (by decide)
    obtain rfl := f4 (by decide) (by decide)
    have hb : b % 256 = b := by rcases f1 rfl with h | h <;> omega
    have hb1 : b < 2 := by rcases f1 rfl with h | h <;> omega
    simp [codeOf, codeV, hb, bk, hb1]
  by_cases h2 : a = 2
  · subst h2
    obtain rfl := f3 (by decide)
    obtain rfl := f4 (by decide) (by decide)
    obtain ⟨m, k, e1, e2, e3, e4, e5⟩ := raw_complete w1 R
    have ec : codeOf ⟨2, b, 0, (⟨#[]⟩ : ByteArray)⟩ = 3 :: codeInt b := by simp [codeOf, codeV]
    rw [ec, List.cons_append]
    have eg : bk (3 :: (codeInt b ++ R)) = bkInt (codeInt b ++ R) := by simp [bk]
    rw [eg]
    unfold bkInt
    rw [e1]
    simp only
    rw [if_neg (by omega), e2, List.length_cons, e5]
    have : 2 + k = k + 1 + 1 := by omega
    rw [this]
  by_cases h3 : a = 3
  · subst h3
    obtain rfl := f2 (by decide) (by decide)
    obtain rfl := f4 (by decide) (by decide)
    have hpc := hp rfl
    have ec : codeOf ⟨3, 0, c, (⟨#[]⟩ : ByteArray)⟩ = 4 :: codeBits c := by simp [codeOf, codeV, hpc]
    have h8 := codeBits_length c
    rw [ec, List.cons_append]
    have e1 : (codeBits c ++ R).take 8 = codeBits c := by rw [List.take_append_of_le_length (by omega), List.take_of_length_le (by omega)]
    have hn : ¬ (codeBits c ++ R).length < 8 := by rw [List.length_append]; omega
    simp only [bk]
    rw [if_neg (by decide), if_neg (by decide), if_neg (by decide), if_pos trivial, if_neg hn, e1, codeBits_float w2, List.length_cons, h8]
    rfl
  have hbc : b = 0 := f2 h1 h2
  have hcc : c = 0 := f3 h3
  subst hbc hcc
  have h45 : a = 4 ∨ a = 5 := by omega
  have ec : codeOf ⟨a, 0, 0, d⟩ = (a + 1) :: codeText d.data.toList := by
    rcases h45 with rfl | rfl <;> simp [codeOf, codeV]
  rw [ec, List.cons_append]
  have eg : bk ((a + 1) :: (codeText d.data.toList ++ R)) = bkText (a + 1) (codeText d.data.toList ++ R) := by
    simp only [bk]
    rw [if_neg (by omega), if_neg (by omega), if_neg (by omega), if_neg (by omega), if_pos (by omega)]
  rw [eg]
  unfold bkText
  rw [text_complete _ _ _ hT hR]
  simp only [List.nil_append]
  have e1 : a + 1 - 1 = a := by omega
  have e2 : (⟨d.data.toList.toArray⟩ : ByteArray) = d := by cases d; simp
  have e3 : (1 + ((codeText d.data.toList ++ R).length : Int)) - ((toB R).length : Int) = (((a + 1) :: codeText d.data.toList).length : Int) := by
    simp only [toB, List.length_map, List.length_append, List.length_cons]; omega
  rw [e1, e2, e3]
theorem build_some : ∀ (xs : List S50) (acc : List Int), (acc ++ flat xs).length ≤ 1024 → build acc xs = some (acc ++ flat xs)
  | [], acc, _ => by simp [build, flat]
  | x :: xs, acc, h => by
    rw [flat_cons, ← List.append_assoc] at h ⊢
    have h1 : ¬ 1024 < (acc ++ codeOf x).length := by rw [List.length_append] at h; omega
    simp only [build]
    rw [if_neg h1]
    exact build_some xs (acc ++ codeOf x) h
theorem encode_flat {xs : List S50} (hc : ∀ x ∈ xs, chkV x = 0) (hl : (flat xs).length ≤ 1024) : encode xs = (strOfNums (flat xs), 0) := by
  have e : xs.all (fun x => chkV x == 0) = true := List.all_eq_true.2 fun x hx => by simp [hc x hx]
  unfold encode
  rw [if_pos e, build_some xs [] (by simpa using hl)]
  simp
theorem str_toList {L M : List Int} (hL : Bytes L) (hM : Bytes M) : (strOfNums L).toList = (strOfNums M).toList ↔ L = M := by
  constructor
  · intro h
    rw [Lib.toList_data, Lib.toList_data] at h
    exact str_inj hL hM (Go.WideShapes.bytes_inj h)
  · rintro rfl; rfl
theorem ref_total (L : List Int) (hL : Bytes L) (hlen : L.length ≤ 1024) : ∀ (n i : Nat) (vs : List S50), L.length - i ≤ n → i ≤ L.length → vs.length ≤ i → (∀ v ∈ vs, wf50 v) →
    ∃ r : List S50 × Int, Ev (fun k => vellumref02_Decode.l0 k (strOfNums L) vs (i : Int)) r ∧ (r = ([], 20) ∨ ∃ ws, (∀ w ∈ ws, wf50 w ∧ chkV w = 0) ∧ L = flat ws ∧ r = (ws, 0)) := by
  intro n
  induction n with
  | zero =>
    intro i vs hn hi hv hw
    have hs : ∀ k, vellumref02_Decode.l0 (k + 1) (strOfNums L) vs (i : Int) = (vellumref02_Encode.f k vs).bind fun bt528 => (if bt528.2 = 0 then (if bt528.1.toList = (strOfNums L).toList then (some (vs, 0)) else (some (([] : List (S50)), 20))) else (some (([] : List (S50)), 20))) := by
      intro k
      simp only [vellumref02_Decode.l0]
      rw [if_neg (by rw [str_size]; omega)]
    have he := encode_ref vs hw (by omega)
    by_cases h0 : (encode vs).2 = 0
    · obtain ⟨g1, g2, g3⟩ := encode_ok h0
      by_cases h1 : flat vs = L
      · refine ⟨(vs, 0), Ev.step hs (Ev.bind he (Ev.pos h0 (Ev.pos ?_ Ev.pure))), .inr ⟨vs, fun w hw' => ⟨hw w hw', g1 w hw'⟩, h1.symm, rfl⟩⟩
        rw [g2, h1]
      · refine ⟨([], 20), Ev.step hs (Ev.bind he (Ev.pos h0 (Ev.neg ?_ Ev.pure))), .inl rfl⟩
        rw [g2]
        exact fun h => h1 ((str_toList (flat_bytes hw) hL).1 h)
    · exact ⟨([], 20), Ev.step hs (Ev.bind he (Ev.neg h0 Ev.pure)), .inl rfl⟩
  | succ n ih =>
    intro i vs hn hi hv hw
    by_cases hlt : i < L.length
    · have hne : L.drop i ≠ [] := by rw [Ne, List.drop_eq_nil_iff]; omega
      have hld : (L.drop i).length = L.length - i := by rw [List.length_drop]
      have hb := back_ev (L.drop i) (hL.drop i) hne (by omega)
      have hs : ∀ k, vellumref02_Decode.l0 (k + 1) (strOfNums L) vs (i : Int) = (vellumref02_back.f k (strOfNums (L.drop i))).bind fun bt519 => (if bt519.2.2.2.2 = 0 then (some (([] : List (S50)), 20)) else (if vs.length < 3518437208883 then (vellumref02_Decode.l0 k (strOfNums L) (vs ++ [(⟨bt519.1, bt519.2.1, bt519.2.2.1, bt519.2.2.2.1⟩ : S50)]) (wrap64 ((i : Int) + bt519.2.2.2.2))) else (none))) := by
        intro k
        have hx : (strOfNums L).extract ((i : Int)).toNat (strOfNums L).size = strOfNums (L.drop i) := str_drop L i
        simp only [vellumref02_Decode.l0, hx]
        rw [if_pos (by rw [str_size]; omega), if_pos (by omega), if_pos (by rw [str_size]; omega)]
      rcases bk_fits (hL.drop i) (by omega) with h0 | ⟨m, hm, m1, m2, m3⟩
      · exact ⟨([], 20), Ev.step hs (Ev.bind hb (Ev.pos h0 Ev.pure)), .inl rfl⟩
      · obtain ⟨r, hr, hcase⟩ := ih (i + m) (vs ++ [valB (bk (L.drop i))]) (by omega) (by omega) (by simp; omega) (by
          intro v hv'
          rcases List.mem_append.1 hv' with h | h
          · exact hw v h
          · simp at h; subst h; exact m3)
        refine ⟨r, Ev.step hs (Ev.bind hb (Ev.neg (by omega) (Ev.pos (by omega) ?_))), hcase⟩
        have hwr : wrap64 ((i : Int) + (m : Int)) = ((i + m : Nat) : Int) := by rw [wrap64_id (by omega) (by omega)]; omega
        rw [hm, hwr]
        exact hr
    · have := ih i vs (by omega) hi hv hw
      exact this
theorem flat_app (xs ys : List S50) : flat (xs ++ ys) = flat xs ++ flat ys := by simp [flat]
theorem ref_flat (xs : List S50) (hx : ∀ v ∈ xs, Told v) (hlen : (flat xs).length ≤ 1024) : ∀ (ys done : List S50), xs = done ++ ys →
    Ev (fun k => vellumref02_Decode.l0 k (strOfNums (flat xs)) done ((flat done).length : Int)) (xs, 0)
  | [], done, e => by
    have e' : xs = done := by rw [e]; simp
    subst e'
    have hw : ∀ v ∈ xs, wf50 v := fun v h => (hx v h).wf
    have hxl : ∀ zs : List S50, zs.length ≤ (flat zs).length := by
      intro zs
      induction zs with
      | nil => simp
      | cons z zs ih => rw [flat_cons, List.length_append, List.length_cons]; have := codeOf_pos z; omega
    have hl := hxl xs
    refine Ev.step (g := fun k => (vellumref02_Encode.f k xs).bind fun bt528 => (if bt528.2 = 0 then (if bt528.1.toList = (strOfNums (flat xs)).toList then (some (xs, 0)) else (some (([] : List (S50)), 20))) else (some (([] : List (S50)), 20)))) (fun k => ?_) ?_
    · simp only [vellumref02_Decode.l0]
      rw [if_neg (by rw [str_size]; omega)]
    · have he := encode_flat (fun v h => (hx v h).ok) hlen
      refine Ev.bind (encode_ref xs hw (by omega)) (Ev.pos (by rw [he]) (Ev.pos (by rw [he]) Ev.pure))
  | y :: ys, done, e => by
    have hy : Told y := hx y (by rw [e]; simp)
    have hw : ∀ v ∈ ys, wf50 v := fun v h => (hx v (by rw [e]; simp [h])).wf
    have hf : flat xs = flat done ++ (codeOf y ++ flat ys) := by rw [e, flat_app, flat_cons]
    have hb : Bytes (flat xs) := flat_bytes fun v h => (hx v h).wf
    have hdrop : (flat xs).drop (flat done).length = codeOf y ++ flat ys := by rw [hf]; simp
    have hll : (flat xs).length = (flat done).length + ((codeOf y).length + (flat ys).length) := by rw [hf]; simp
    have hpos := codeOf_pos y
    have hbk := back_ev ((flat xs).drop (flat done).length) (hb.drop _) (by rw [hdrop]; intro h; rw [List.append_eq_nil_iff] at h; rw [h.1] at hpos; simp at hpos) (by rw [hdrop]; simp; omega)
    rw [hdrop, bk_complete hy (flat_tail ys) (flat_bytes hw)] at hbk
    have hx' : (strOfNums (flat xs)).extract (((flat done).length : Int)).toNat (strOfNums (flat xs)).size = strOfNums (codeOf y ++ flat ys) := by
      have := str_drop (flat xs) (flat done).length
      rw [hdrop] at this
      exact this
    have hdl : done.length ≤ 1024 := by
      have hxl : ∀ zs : List S50, zs.length ≤ (flat zs).length := by
        intro zs
        induction zs with
        | nil => simp
        | cons z zs ih => rw [flat_cons, List.length_append, List.length_cons]; have := codeOf_pos z; omega
      have := hxl done
      omega
    refine Ev.step (g := fun k => (vellumref02_back.f k (strOfNums (codeOf y ++ flat ys))).bind fun bt519 => (if bt519.2.2.2.2 = 0 then (some (([] : List (S50)), 20)) else (if done.length < 3518437208883 then (vellumref02_Decode.l0 k (strOfNums (flat xs)) (done ++ [(⟨bt519.1, bt519.2.1, bt519.2.2.1, bt519.2.2.2.1⟩ : S50)]) (wrap64 (((flat done).length : Int) + bt519.2.2.2.2))) else (none)))) (fun k => ?_) ?_
    · simp only [vellumref02_Decode.l0, hx']
      rw [if_pos (by rw [str_size]; omega), if_pos (by omega), if_pos (by rw [str_size]; omega)]
    · refine Ev.bind hbk (Ev.neg (by show ¬ (((codeOf y).length : Int) = 0); omega) (Ev.pos (by omega) ?_))
      have hwr : wrap64 (((flat done).length : Int) + ((codeOf y).length : Int)) = ((flat (done ++ [y])).length : Int) := by
        rw [wrap64_id (by omega) (by omega), flat_app]
        simp [flat]
      show Ev (fun k => vellumref02_Decode.l0 k (strOfNums (flat xs)) (done ++ [y]) (wrap64 (((flat done).length : Int) + ((codeOf y).length : Int)))) (xs, 0)
      rw [hwr]
      exact ref_flat xs hx hlen ys (done ++ [y]) (by rw [e]; simp)
theorem Ev.uniq {α : Type} {f : Nat → Option α} {a b : α} (h1 : Ev f a) (h2 : Ev f b) : a = b := by
  obtain ⟨k1, h1⟩ := h1
  obtain ⟨k2, h2⟩ := h2
  have e1 := h1 (max k1 k2) (by omega)
  have e2 := h2 (max k1 k2) (by omega)
  rw [e1] at e2
  exact Option.some.inj e2
def plainV (v : S50) : S50 := ⟨v.f0, v.f1, if v.f0 = 3 then plainF v.f2 else v.f2, v.f3⟩
theorem plainF_idem {c : Nat} (hc : c < 18446744073709551616) : plainF (plainF c) = plainF c := by
  by_cases hn : isNum c
  · obtain ⟨h1, h2, h3⟩ := plainF_num hc hn
    have hlt := plainF_lt hc
    unfold plainF at h1 h2 h3 hlt ⊢
    by_cases h0 : feq c 0 = true
    · rw [if_pos h0]; decide +kernel
    · rw [if_neg h0, if_pos ((feq_num hc).2 hn), if_neg h0, if_pos ((feq_num hc).2 hn)]
  · rw [plainF_nan hc hn]; decide +kernel
theorem plainV_told {v : S50} (hw : wf50 v) (hc : chkV v = 0) : Told (plainV v) := by
  obtain ⟨a, b, c, d⟩ := v
  obtain ⟨w0, w1, w2, w3⟩ := hw
  by_cases h3 : a = 3
  · subst h3
    have hcc : chk 3 b (plainF c) d = 0 := by
      have : chk 3 b c d = 0 := hc
      unfold chk at this ⊢
      simpa using this
    exact ⟨by simpa [plainV, chkV] using hcc, ⟨w0, w1, by show (if (3 : Int) = 3 then plainF c else c) < _; rw [if_pos rfl]; exact plainF_lt w2, w3⟩, fun _ => by show plainF (if (3 : Int) = 3 then plainF c else c) = (if (3 : Int) = 3 then plainF c else c); rw [if_pos rfl]; exact plainF_idem w2⟩
  · have e : plainV ⟨a, b, c, d⟩ = ⟨a, b, c, d⟩ := by simp [plainV, h3]
    rw [e]
    exact ⟨hc, ⟨w0, w1, w2, w3⟩, fun h => absurd h h3⟩
theorem plainV_code {v : S50} (hw : wf50 v) : codeOf (plainV v) = codeOf v := by
  obtain ⟨a, b, c, d⟩ := v
  by_cases h3 : a = 3
  · subst h3
    simp only [plainV, codeOf, codeV]
    simp [plainF_idem hw.2.2.1]
  · simp [plainV, h3]
theorem plainV_flat : ∀ {xs : List S50}, (∀ x ∈ xs, wf50 x) → flat (xs.map plainV) = flat xs
  | [], _ => rfl
  | x :: xs, h => by
    rw [List.map_cons, flat_cons, flat_cons, plainV_code (h x (by simp)), plainV_flat fun y hy => h y (by simp [hy])]
/-- What both Decodes tell of a key. -/
theorem decode_both (s : ByteArray) : ∃ r : List S50 × Int, Ev (fun k => code_Decode.f k s) r ∧ Ev (fun k => vellumref02_Decode.f k s) r ∧ (r.1 = [] ∧ r.2 ≠ 0 ∨ (∀ v ∈ r.1, Told v) ∧ r.2 = 0 ∧ s = strOfNums (flat r.1) ∧ (flat r.1).length ≤ 1024) := by
  have hs := str_bytes s
  have hB := bytesOf_bytes s
  generalize bytesOf s = L at hs hB
  subst hs
  simp only [code_Decode.f, vellumref02_Decode.f, str_size]
  by_cases hlong : (L.length : Int) > 1024
  · exact ⟨([], 3), Ev.pos hlong Ev.pure, Ev.pos hlong Ev.pure, .inl ⟨rfl, by decide⟩⟩
  have hlen : L.length ≤ 1024 := by omega
  obtain ⟨r, hr, hcase⟩ := decode_total L.length L [] (Nat.le_refl _) hB (by simp; omega)
  rcases hcase with rfl | ⟨vs, h1, h2, h3⟩
  · obtain ⟨r2, hr2, hcase2⟩ := ref_total L hB hlen L.length 0 [] (by omega) (by omega) (by simp) (by simp)
    rcases hcase2 with rfl | ⟨ws, g1, g2, g3⟩
    · exact ⟨([], 20), Ev.neg hlong hr, Ev.neg hlong hr2, .inl ⟨rfl, by decide⟩⟩
    · exfalso
      have hw : ∀ w ∈ ws, wf50 w := fun w h => (g1 w h).1
      have hd := decode_flat (ws.map plainV) [] (by
        intro v hv
        obtain ⟨w, hw1, rfl⟩ := List.mem_map.1 hv
        exact plainV_told (g1 w hw1).1 (g1 w hw1).2) (by rw [plainV_flat hw, ← g2]; simp; omega)
      rw [plainV_flat hw, ← g2] at hd
      have := Ev.uniq hr hd
      simp at this
  · subst h2
    have hd := ref_flat vs h1 hlen vs [] rfl
    refine ⟨(vs, 0), Ev.neg hlong ?_, Ev.neg hlong hd, .inr ⟨h1, rfl, rfl, hlen⟩⟩
    rw [h3] at hr
    exact hr
theorem flat_len : ∀ zs : List S50, zs.length ≤ (flat zs).length
  | [] => by simp
  | z :: zs => by rw [flat_cons, List.length_append, List.length_cons]; have := codeOf_pos z; have := flat_len zs; omega
/-- The two bits of column i in a head. -/
def mk (h : List Int) (i : Nat) : Int := (h.getD (i / 4) 0 / 4 ^ (i % 4)) % 4
theorem smB_iff {x y : S50} : smB x y = true ↔ x = y := by
  constructor
  · intro h
    unfold smB at h
    split at h
    · split at h
      · split at h
        · rename_i h0 h1 h2
          obtain ⟨a, b, c, d⟩ := x
          obtain ⟨a', b', c', d'⟩ := y
          have h3 : d = d' := by
            rw [beq_iff_eq, Lib.toList_data, Lib.toList_data] at h
            exact Go.WideShapes.bytes_inj h
          simp only at h0 h1 h2
          have h2 : c = c' := by omega
          subst h0 h1 h2 h3; rfl
        · cases h
      · cases h
    · cases h
  · rintro rfl
    simp [smB]
end Go.Proofs.YtpiifdbicibelaaDoor.Pure
end
section
namespace Go.Proofs.YtpiifdbicibelaaDoor.PA
open Go.RowKit Go.Proofs.YtpiifdbicibelaaDoorW.PrintWords Go.Proofs.YtpiifdbicibelaaDoorW.PrintLast Go.Proofs.YtpiifdbicibelaaDoorW.PrintMore
attribute [local go_sem] max2_int min2_int max_two min_two max_three min_three max_four min_four
set_option linter.unusedVariables false
set_option linter.unusedSimpArgs false
end Go.Proofs.YtpiifdbicibelaaDoor.PA
end
section
namespace Go.Proofs.YtpiifdbicibelaaDoor.Pure
open Go.RowKit Go.Proofs Go.Proofs.YtpiifdbicibelaaDoorW.PrintWords Go.Proofs.YtpiifdbicibelaaDoorW.PrintLast Go.Proofs.YtpiifdbicibelaaDoorW.PrintMore Go.Proofs.YtpiifdbicibelaaDoor.PA Go.Proofs.YtpiifdbicibelaaDoor.OpenK
set_option linter.unusedVariables false
set_option linter.unusedSimpArgs false
theorem sameL_self : ∀ xs : List S50, sameL xs xs = true
  | [] => rfl
  | x :: xs => by simp [sameL, sameL_self xs, smB_iff.2 rfl]
end Go.Proofs.YtpiifdbicibelaaDoor.Pure
end
section
namespace Go.Proofs.YtpiifdbicibelaaDoor.PA
open Go.RowKit Go.Proofs.YtpiifdbicibelaaDoorW.PrintWords Go.Proofs.YtpiifdbicibelaaDoorW.PrintLast Go.Proofs.YtpiifdbicibelaaDoorW.PrintMore
attribute [local go_sem] max2_int min2_int max_two min_two max_three min_three max_four min_four
set_option linter.unusedVariables false
set_option linter.unusedSimpArgs false
def vellumref01_Row.l0 : Nat → List (S50) → List (S50) → Int → Option ((List (S50)))
  | 0, _, _, _ => none
  | k + 1, x0, x3, x4 => if x4 < (x0.length : Int) then (if 0 ≤ x4 then (if x3.length < 3518437208883 then (vellumref01_Row.l0 k x0 (x3 ++ [(⟨(rd_T50 x0 x4).f0, (rd_T50 x0 x4).f1, (rd_T50 x0 x4).f2, (rd_T50 x0 x4).f3⟩ : S50)]) (wrap64 (x4 + 1))) else (none)) else (none)) else (some x3)
def vellumref01_Row.f (k : Nat) (l0 : List (S50)) : Option ((List (S50))) := vellumref01_Row.l0 k l0 (([] : List (S50))) 0
set_option maxHeartbeats 8000000 in
set_option maxRecDepth 100000 in
theorem vellumref01_Row.calls (k : Nat) (A0 : Option Addr) (c0 : Nat) (l0 : List (S50)) (r : List (S50)) (w : World) (hr0 : Kd.C k50 w A0 l0.length l0) (hc0 : l0.length ≤ c0) (h : vellumref01_Row.f k l0 = some r) :
    Calls Tryd.prog 51 #[.slice A0 l0.length c0] w fun e w' => ∃ v0_ : Value, e = .returned (v0_) ∧ Kd.R k50 50 w' w.heap.size (fun _ => True) v0_ r ∧ Below w.heap.size w w' := by
  have hu50 := Tryd.underlying50
  have HR0 := am hr0
  have HC0 := am hc0
  clear hr0 hc0
  have HB := am (Below.refl w.heap.size w)
  have H : (vellumref01_Row.l0 k l0 (([] : List (S50))) 0) = some r := h
  clear h
  obtain ⟨y906, hy906⟩ : ∃ y_ : List (S50), y_ = (([] : List (S50))) := ⟨_, rfl⟩
  replace H : (vellumref01_Row.l0 k l0 y906 0) = some r := by first | (rw [hy906]; with_reducible exact H) | (have H2_ := (Option.bind_some _ _).symm.trans H; rw [hy906]; with_reducible exact H2_) | (have H2_ := (Option.bind_some _ _).symm.trans H; with_reducible exact H2_) | with_reducible exact H | (rw [hy906]; exact H) | exact H
  have Ny906 := am hy906
  clear hy906
  have H' := am H
  clear H
  go_enter Tryd.func51, Tryd.ntmps51
  go_wp2_with (first | ((with_reducible refine gate_dst (N := 5) rfl ?_); refine Kd.R_lit k50 _ 50 ?hg (N := 5) ?hd (xs := ([] : List (S50))) (inner := []) (ok := fun _ => True) (okp := fun _ => True) ?hr ?hp (fun _ hk => hk) trivial (Below.refl _ _) (Nat.le_refl _) (by simp) ?_; (case hd => rfl); (case hg => rfl); (case hr => first | (go_simp; done) | (go_simp; rfl)); (case hp => exact (Reps.none _ _)); intro v907 w2 ho3 hb hg_ hnew_; clear hg_ hnew_; (first | rw [← Ny906.out] at ho3 | (simp only [Int.reduceToNat] at ho3; rw [← Ny906.out] at ho3)); have n0_ := am (Kd.R_lower ho3 (below_size (bl HB))); have n1_ := sb HB hb; clear HB; have HO908 := n0_; have HB := n1_; clear n0_ n1_; clear hb ho3))
  go_loopg [3, 4] k (fun kq v3 v4 w' => ∃ (x3_1 : List (S50)) (x4_1 : Int), v4 = .int .i64 x4_1 ∧ Aside0 (vellumref01_Row.l0 kq l0 x3_1 x4_1 = some r) ∧ Aside0 (kq ≤ k) ∧ Aside0 (Kd.R k50 50 w' w.heap.size (fun _ => True) v3 x3_1) ∧ Aside0 (Below w.heap.size w w'))
  case atStart => exact ⟨(y906), (0), eb, H', ⟨Nat.le_refl _⟩, ⟨Kd.rr HO908.out⟩, ⟨bl HB⟩⟩
  case round =>
    clear H'
    try clear p2
    obtain ⟨x3_1, x4_1, rfl, HA, HK1, HO_3, HB⟩ := hrel
    cases gk with
    | zero => exact absurd HA.out (by simp [vellumref01_Row.l0])
    | succ k1 =>
      have H := HA.out
      clear HA
      simp only [vellumref01_Row.l0] at H
      by_cases c4 : x4_1 < (l0.length : Int)
      · rw [if_pos c4] at H
        have c4b0 : decide (x4_1 < (l0.length : Int)) = true := decide_eq_true c4
        clear c4
        by_cases c5 : 0 ≤ x4_1
        · rw [if_pos c5] at H
          have c5b0 : decide (0 ≤ x4_1) = true := decide_eq_true c5
          clear c5
          by_cases c6 : x3_1.length < 3518437208883
          · rw [if_pos c6] at H
            have LMc6 := am c6
            clear c6
            obtain ⟨y910, hy910⟩ : ∃ y_ : List (S50), y_ = (x3_1 ++ [(⟨(rd_T50 l0 x4_1).f0, (rd_T50 l0 x4_1).f1, (rd_T50 l0 x4_1).f2, (rd_T50 l0 x4_1).f3⟩ : S50)]) := ⟨_, rfl⟩
            replace H : (vellumref01_Row.l0 k1 l0 y910 (wrap64 (x4_1 + 1))) = some r := by first | (rw [hy910]; with_reducible exact H) | (have H2_ := (Option.bind_some _ _).symm.trans H; rw [hy910]; with_reducible exact H2_) | (have H2_ := (Option.bind_some _ _).symm.trans H; with_reducible exact H2_) | with_reducible exact H | (rw [hy910]; exact H) | exact H
            have Ny910 := am hy910
            clear hy910
            have H' := am H
            clear H
            have p909 : 0 ≤ (x4_1 : Int) := oda
            have q909 : x4_1 < (l0.length : Int) := oda
            obtain ⟨ad909, e909, hx909_0, hx909_1, hx909_2, hx909_3⟩ := at_T50 HR0.out x4_1 p909 q909
            cases e909
            replace hx909_0 := hc HB hx909_0
            replace hx909_1 := hc HB hx909_1
            replace hx909_2 := hc HB hx909_2
            replace hx909_3 := hc HB hx909_3
            replace p909 := eq_true p909
            replace q909 := eq_true q909
            go_wp2_with (first | ((with_reducible refine gate_builtin (b := .append) (xs := #[.tmp 12, .tmp 17]) rfl ?_); at_builtin; refine Kd.R_append k50 (w0 := w) w.heap.size rfl (.tmp 12) (.tmp 17) 22 50 (.agg #[(.int .i64 0), (.int .i64 0), (.float .f64 0), (.string ⟨#[]⟩)]) 40 rfl Tryd.underlying22 info50 rfl (by decide) (by omega) u3 x3_1 (⟨(rd_T50 l0 x4_1).f0, (rd_T50 l0 x4_1).f1, (rd_T50 l0 x4_1).f2, (rd_T50 l0 x4_1).f3⟩ : S50) [.int .i64 ((rd_T50 l0 x4_1).f0), .int .i64 ((rd_T50 l0 x4_1).f1), .float .f64 ((rd_T50 l0 x4_1).f2), .string ((rd_T50 l0 x4_1).f3)] (fun _ => True) (fun _ => False) rfl rfl ?aP (fun _ hk => hk.elim) ?aF ?aO ?aB ?aS ?aL ?_; (case aP => exact k50_mkM _ _ _ (⟨(rd_T50 l0 x4_1).f0, (rd_T50 l0 x4_1).f1, (rd_T50 l0 x4_1).f2, (rd_T50 l0 x4_1).f3⟩ : S50)); (case aB => exact (bl HB)); (case aF => exact (fun _ _ => trivial)); (case aO => exact (Kd.rr HO_3.out)); (case aS => exact (below_size (bl HB))); (case aL => have := LMc6.out; omega); intro v911 w7 ho hb hg hat; rw [← Ny910.out] at ho; have n0_ := am (hb); have n1_ := am (ho); clear HB; clear HO_3; have HB := n0_; have HO912 := n1_; clear n0_ n1_; clear ho hb hg hat))
            go_roundg k1
            case measure => have := HK1.out; omega
            case rel => exact ⟨(y910), (wrap64 (x4_1 + 1)), eb, H', ⟨by have := HK1.out; omega⟩, ⟨Kd.rr HO912.out⟩, ⟨bl HB⟩⟩
          · rw [if_neg c6] at H
            exact absurd H (by simp)
        · rw [if_neg c5] at H
          exact absurd H (by simp)
      · rw [if_neg c4] at H
        have c4b0 : decide (x4_1 < (l0.length : Int)) = false := decide_eq_false c4
        clear c4
        obtain rfl := Option.some.inj H
        go_wp2
        go_ret
        exact ⟨_, er, Kd.rr HO_3.out, bl HB⟩
end Go.Proofs.YtpiifdbicibelaaDoor.PA
end
section
namespace Go.Proofs.YtpiifdbicibelaaDoor.Pure
open Go.RowKit Go.Proofs Go.Proofs.YtpiifdbicibelaaDoorW.PrintWords Go.Proofs.YtpiifdbicibelaaDoorW.PrintLast Go.Proofs.YtpiifdbicibelaaDoorW.PrintMore Go.Proofs.YtpiifdbicibelaaDoor.PA Go.Proofs.YtpiifdbicibelaaDoor.OpenK
set_option linter.unusedVariables false
set_option linter.unusedSimpArgs false
theorem row_copy (l : List S50) (hl : l.length * 40 ≤ 140737488351232) : Ev (fun k => vellumref01_Row.f k l) l := by
  have go : ∀ (m i : Nat), i + m = l.length → Ev (fun k => vellumref01_Row.l0 k l (l.take i) (i : Int)) l := by
    intro m
    induction m with
    | zero =>
      intro i hi
      refine Ev.from_ 1 fun k => ?_
      simp only [vellumref01_Row.l0]
      rw [if_neg (by omega), List.take_of_length_le (by omega)]
    | succ m ih =>
      intro i hi
      have hlt : i < l.length := by omega
      refine Ev.step (fun k => ?_) (ih (i + 1) (by omega))
      simp only [vellumref01_Row.l0]
      have htl : (l.take i).length = i := by rw [List.length_take]; omega
      rw [if_pos (by omega), if_pos (by omega), if_pos (by omega), rd_get l i _ (List.getElem?_eq_getElem hlt), wrap64_id (by omega) (by omega), List.take_succ_eq_append_getElem hlt]
      rfl
  exact go l.length 0 (by omega)
end Go.Proofs.YtpiifdbicibelaaDoor.Pure
end
section
namespace Go.Proofs.YtpiifdbicibelaaDoor.Pure
open Go.RowKit Go.Proofs Go.Proofs.YtpiifdbicibelaaDoorW.PrintWords Go.Proofs.YtpiifdbicibelaaDoor.PA Go.Proofs.YtpiifdbicibelaaDoor.OpenK
set_option linter.unusedVariables false
theorem nb_1 : nb 1 = 1 := by unfold nb; simp; unfold nb; simp
theorem encode_one : encode [(⟨2, 1, 0, (⟨#[]⟩ : ByteArray)⟩ : S50)] = (⟨#[3, 129, 1]⟩, 0) := by
  have e : (⟨#[]⟩ : ByteArray).toList = [] := by decide +kernel
  have e2 : (⟨#[]⟩ : ByteArray).size = 0 := rfl
  simp [encode, e2, chkV, chk, build, codeOf, codeV, codeInt, nb_1, be, e, strOfNums]
theorem awake_ev : Ev (fun k => vellumlaw02_awake.f k) true := by
  simp only [vellumlaw02_awake.f]
  refine Ev.bind (encode_code _ ?_ (by simp)) ?_
  · intro x hx
    simp at hx
    subst hx
    exact ⟨by decide, by decide, by decide, by decide⟩
  · rw [encode_one]
    exact Ev.const (by decide +kernel)
end Go.Proofs.YtpiifdbicibelaaDoor.Pure
end
section
namespace Go.Proofs
open Go.Shelf
def Tryd.sortR_ren : Go.Shelf.Ren := ⟨fun | 6 => 79 | 15 => 117 | 14 => 116 | 28 => 155 | 29 => 156 | 20 => 147 | 21 => 148 | 22 => 149 | 23 => 150 | 24 => 151 | 25 => 152 | 26 => 153 | 27 => 154 | 46 => 177 | 47 => 178 | 48 => 179 | 49 => 180 | 50 => 181 | 57 => 191 | n => n, fun | 22 => 53 | 24 => 32 | 25 => 94 | 3 => 3 | 39 => 128 | 0 => 0 | 53 => 167 | 55 => 88 | 4 => 4 | 46 => 160 | 45 => 159 | 50 => 164 | 5 => 5 | 9 => 9 | 66 => 181 | 70 => 185 | 76 => 197 | 77 => 198 | n => n, fun | n => n⟩
theorem Tryd.sortR : Go.Proofs.SlLaysF0.n6 Tryd.prog Tryd.sortR_ren := {
  mixed := by kernel_rfl
  f6 := ⟨Tryd.f79.name, by decide, Tryd.func79.trans (congrArg some (by kernel_rfl))⟩
  f14 := ⟨Tryd.f116.name, by decide, Tryd.func116.trans (congrArg some (by kernel_rfl))⟩
  f15 := Tryd.func117.trans (congrArg some (by kernel_rfl))
  f20 := ⟨Tryd.f147.name, by decide, Tryd.func147.trans (congrArg some (by kernel_rfl))⟩
  f21 := ⟨Tryd.f148.name, by decide, Tryd.func148.trans (congrArg some (by kernel_rfl))⟩
  f22 := ⟨Tryd.f149.name, by decide, Tryd.func149.trans (congrArg some (by kernel_rfl))⟩
  f23 := ⟨Tryd.f150.name, by decide, Tryd.func150.trans (congrArg some (by kernel_rfl))⟩
  f24 := ⟨Tryd.f151.name, by decide, Tryd.func151.trans (congrArg some (by kernel_rfl))⟩
  f25 := ⟨Tryd.f152.name, by decide, Tryd.func152.trans (congrArg some (by kernel_rfl))⟩
  f26 := ⟨Tryd.f153.name, by decide, Tryd.func153.trans (congrArg some (by kernel_rfl))⟩
  f27 := ⟨Tryd.f154.name, by decide, Tryd.func154.trans (congrArg some (by kernel_rfl))⟩
  f28 := Tryd.func155.trans (congrArg some (by kernel_rfl))
  f29 := Tryd.func156.trans (congrArg some (by kernel_rfl))
  f46 := ⟨Tryd.f177.name, by decide, Tryd.func177.trans (congrArg some (by kernel_rfl))⟩
  f47 := Tryd.func178.trans (congrArg some (by kernel_rfl))
  f48 := Tryd.func179.trans (congrArg some (by kernel_rfl))
  f49 := ⟨Tryd.f180.name, by decide, Tryd.func180.trans (congrArg some (by kernel_rfl))⟩
  f50 := ⟨Tryd.f181.name, by decide, Tryd.func181.trans (congrArg some (by kernel_rfl))⟩
  f57 := ⟨Tryd.f191.name, by decide, Tryd.func191.trans (congrArg some (by kernel_rfl))⟩
  t0 := Tryd.underlying0
  a0 := Tryd.isAgg0
  z0 := Tryd.sizeOf0
  v0 := Tryd.zeroValue0
  t3 := Tryd.underlying3
  a3 := Tryd.isAgg3
  z3 := Tryd.sizeOf3
  v3 := Tryd.zeroValue3
  t4 := Tryd.underlying4
  a4 := Tryd.isAgg4
  z4 := Tryd.sizeOf4
  v4 := Tryd.zeroValue4
  t5 := Tryd.underlying5
  a5 := Tryd.isAgg5
  z5 := Tryd.sizeOf5
  v5 := Tryd.zeroValue5
  t9 := Tryd.underlying9
  a9 := Tryd.isAgg9
  z9 := Tryd.sizeOf9
  v9 := Tryd.zeroValue9
  t22 := Tryd.underlying53
  a22 := Tryd.isAgg53
  z22 := Tryd.sizeOf53
  v22 := Tryd.zeroValue53
  t25 := Tryd.underlying94
  a25 := Tryd.isAgg94
  z25 := Tryd.sizeOf94
  v25 := Tryd.zeroValue94
  t39 := Tryd.underlying128
  a39 := Tryd.isAgg128
  z39 := Tryd.sizeOf128
  v39 := Tryd.zeroValue128
  t45 := Tryd.underlying159
  a45 := Tryd.isAgg159
  z45 := Tryd.sizeOf159
  v45 := Tryd.zeroValue159
  t46 := Tryd.underlying160
  a46 := Tryd.isAgg160
  z46 := Tryd.sizeOf160
  v46 := Tryd.zeroValue160
  t50 := Tryd.underlying164
  a50 := Tryd.isAgg164
  z50 := Tryd.sizeOf164
  v50 := Tryd.zeroValue164
  t53 := Tryd.underlying167
  a53 := Tryd.isAgg167
  z53 := Tryd.sizeOf167
  v53 := Tryd.zeroValue167
  t55 := Tryd.underlying88
  a55 := Tryd.isAgg88
  z55 := Tryd.sizeOf88
  v55 := Tryd.zeroValue88
  t66 := Tryd.underlying181
  a66 := Tryd.isAgg181
  z66 := Tryd.sizeOf181
  v66 := Tryd.zeroValue181
  t70 := Tryd.underlying185
  a70 := Tryd.isAgg185
  z70 := Tryd.sizeOf185
  v70 := Tryd.zeroValue185
  t76 := Tryd.underlying197
  a76 := Tryd.isAgg197
  z76 := Tryd.sizeOf197
  v76 := Tryd.zeroValue197
  t77 := Tryd.underlying198
  a77 := Tryd.isAgg198
  z77 := Tryd.sizeOf198
  v77 := Tryd.zeroValue198 }
open Go.RowKit Go.Lib Go.Sort in
theorem Tryd.sortRng {α : Type} [Inhabited α] (enc : α → List Value) (hk : ∀ x, (enc x).length = 3) (h1 : ∀ x, ∀ v ∈ enc x, v.oneCell' = true) (cf : α → α → Int) (hO : SWO (ltOf cf)) (g : Nat) (cb : Array Value) (blk off cap : Nat) (d : Array α) (w : World)
    (eg : ∀ args w, (callFunc g args).run Tryd.prog w = .ok (.enter g args) w) (hcmp : CmpLays Tryd.prog g cb enc 3 cf blk off d.size w) (hH : HoldsK enc 3 w blk off d) (hblk : blk < w.heap.size) (hsz : d.size < 4611686018427387904) :
    Calls Tryd.prog 79 #[.slice (some ⟨blk, off, none⟩) d.size cap, .func (.func g) #[] cb] w fun e w' =>
      e = .returned (.tuple #[]) ∧ ∃ d' n os, PermIn 0 d.size d d' ∧ SortedIn (ltOf cf) 0 d.size d' ∧ w' = sortWorldK enc 3 w blk off n d' os := AnyQ.slices_SortFunc Tryd.sortR 3 Tryd.isAgg32 Tryd.sizeOf32 enc hk h1 cf hO g cb blk off cap d w eg hcmp hH hblk hsz
end Go.Proofs
end
section
namespace Go.Proofs.YtpiifdbicibelaaDoor.PA
open Go.RowKit Go.Proofs Go.Proofs.YtpiifdbicibelaaDoorW.PrintWords Go.Proofs.YtpiifdbicibelaaDoorW.PrintLast Go.Proofs.YtpiifdbicibelaaDoorW.PrintMore
set_option linter.unusedVariables false
set_option linter.unusedSimpArgs false
def enc32 (x : S32) : List Value := [.string x.f0, .string x.f1, .bool x.f2]
/-- A row of ranges in a block, from its first cell on, none of whose cells is frozen. -/
def Row3 (w : World) (g : Nat) (xs : List S32) : Prop := ∀ (i : Nat) (x : S32), xs[i]? = some x → ∀ (j : Nat) (u : Value), (enc32 x)[j]? = some u → w.cell? ⟨g, i * 3 + j, none⟩ = some u ∧ w.frozen? ⟨g, i * 3 + j, none⟩ = false
theorem Row3.at0 {w : World} {g : Nat} {xs : List S32} (h : Row3 w g xs) {i : Nat} {x : S32} (hi : xs[i]? = some x) : w.cell? ⟨g, i * 3, none⟩ = some (.string x.f0) ∧ w.cell? ⟨g, i * 3 + 1, none⟩ = some (.string x.f1) ∧ w.cell? ⟨g, i * 3 + 2, none⟩ = some (.bool x.f2) ∧
    w.frozen? ⟨g, i * 3, none⟩ = false ∧ w.frozen? ⟨g, i * 3 + 1, none⟩ = false ∧ w.frozen? ⟨g, i * 3 + 2, none⟩ = false :=
  ⟨(h i x hi 0 _ rfl).1, (h i x hi 1 _ rfl).1, (h i x hi 2 _ rfl).1, (h i x hi 0 _ rfl).2, (h i x hi 1 _ rfl).2, (h i x hi 2 _ rfl).2⟩
theorem Row3.same {w w' : World} {g : Nat} {xs : List S32} (h : Row3 w g xs) (e : w'.heap[g]? = w.heap[g]?) : Row3 w' g xs := by
  intro i x hi j u hu
  have := h i x hi j u hu
  simpa [World.cell?, World.frozen?, e] using this
theorem Row3.below {w w' : World} {g : Nat} {xs : List S32} (h : Row3 w g xs) (hg : g < w.heap.size) (hb : Below w.heap.size w w') : Row3 w' g xs := h.same (hb.block g hg)
theorem Row3.lt {w : World} {g : Nat} {xs : List S32} (h : Row3 w g xs) (hn : 0 < xs.length) : g < w.heap.size := by
  have := (h 0 _ (List.getElem?_eq_getElem hn) 0 _ rfl).1
  exact World.block_lt_of_cell? w _ this
theorem Row3.take {w : World} {g : Nat} {xs : List S32} (h : Row3 w g xs) (n : Nat) : Row3 w g (xs.take n) := by
  intro i x hi
  refine h i x ?_
  rw [List.getElem?_take] at hi
  split at hi
  · exact hi
  · cases hi
theorem Row3.C {w : World} {g : Nat} {xs : List S32} (h : Row3 w g xs) (hl : xs.length ≤ 9223372036854775807) : Kd.C k32 w (some ⟨g, 0, none⟩) xs.length xs := by
  refine ⟨rfl, hl, fun _ => ⟨_, rfl, fun j p hp => ⟨enc32 p, rfl, k32_mk w p, fun i u hu => ?_⟩⟩⟩
  have := (h j p hp i u hu).1
  rw [add_plain]
  exact this
/-- slices.IndexFunc at ranges: the first that the predicate takes. -/
theorem idxf_rng (p : S32 → Bool) (g : Nat) (lb : Array Value) (eg : ∀ args w, (callFunc g args).run Tryd.prog w = .ok (.enter g args) w) (A : Option Addr) (xs : List S32) (c : Nat) (w : World) (hC : Kd.C k32 w A xs.length xs)
    (hp : ∀ (W : World) (x : S32), Below w.heap.size w W → Calls Tryd.prog g (#[.agg (enc32 x).toArray] ++ lb) W fun e w' => e = .returned (.bool (p x)) ∧ Below w.heap.size w w') :
    Calls Tryd.prog 115 #[.slice A xs.length c, .func (.func g) #[] lb] w fun e w' => e = .returned (.int .i64 (idxF p xs)) ∧ Below w.heap.size w w' := by
  have HC := Aside0.mk hC
  have hmax : xs.length ≤ 9223372036854775807 := hC.2.1
  clear hC
  go_enter Tryd.func115, Tryd.ntmps115
  go_wp2
  go_loopg [5, 8] xs.length (fun gg _ s8 wr => ∃ kk : Nat, s8 = .int .i64 kk ∧ Aside0 (kk ≤ xs.length) ∧ Aside0 (xs.length - kk ≤ gg) ∧ Aside0 (Below w.heap.size w wr) ∧ Aside0 (∀ x ∈ xs.take kk, p x = false))
  case atStart => exact ⟨0, rfl, ⟨Nat.zero_le _⟩, ⟨by omega⟩, ⟨Below.refl _ w⟩, ⟨fun x hx => by simp at hx⟩⟩
  case round =>
    obtain ⟨kk, rfl, HK, HM, HB, HN⟩ := hrel
    have hkk := HK.out
    by_cases hlt : kk < xs.length
    · have hltz : (kk : Int) < (xs.length : Int) := by omega
      obtain ⟨ad, e, hx0, hx1, hx2⟩ := at_T32 HC.out (kk : Int) (by omega) hltz
      subst e
      simp only [Int.toNat_natCast] at hx0 hx1 hx2
      replace hx0 := (HB.out.cell (World.block_lt_of_cell? w _ hx0)).trans hx0
      replace hx1 := (HB.out.cell (World.block_lt_of_cell? w _ hx1)).trans hx1
      replace hx2 := (HB.out.cell (World.block_lt_of_cell? w _ hx2)).trans hx2
      have hy : xs[kk]? = some (rd_T32 xs (kk : Int)) := by unfold rd_T32; simp [List.getD, List.getElem?_eq_getElem hlt]
      generalize rd_T32 xs (kk : Int) = y at hx0 hx1 hx2 hy
      have HY := Aside0.mk hy
      have hcall := hp wr y HB.out
      unfold enc32 at hcall
      clear hy hp
      cases hq : p y with
      | true =>
        rw [hq] at hcall
        go_wp2_with (go_at_fn g; refine hcall.mono ?_; rintro e w' ⟨rfl, hb'⟩)
        go_ret
        exact ⟨by rw [any_take HY.out HN.out hq]; rfl, hb'⟩
      | false =>
        rw [hq] at hcall
        go_wp2_with (go_at_fn g; refine hcall.mono ?_; rintro e w' ⟨rfl, hb'⟩)
        go_roundg (xs.length - (kk + 1))
        case measure => have := HM.out; omega
        case rel => exact ⟨kk + 1, by go_num, ⟨by omega⟩, ⟨Nat.le_refl _⟩, ⟨hb'⟩, ⟨take_step HY.out HN.out hq⟩⟩
    · obtain rfl : kk = xs.length := by omega
      have hltz : ¬ (xs.length : Int) < (xs.length : Int) := by omega
      go_wp2
      go_ret
      exact ⟨by rw [any_none HN.out]; rfl, HB.out⟩
theorem idxF_cases {α : Type} (p : α → Bool) (xs : List α) : (idxF p xs = -1 ∧ ∀ x ∈ xs, p x = false) ∨ ∃ k : Nat, k < xs.length ∧ idxF p xs = (k : Int) ∧ (∀ x ∈ xs.take k, p x = false) ∧ ∃ y, xs[k]? = some y ∧ p y = true := by
  unfold idxF
  cases h : xs.any p with
  | false =>
    left
    refine ⟨if_neg (by decide), fun x hx => ?_⟩
    have := List.any_eq_false.1 h x hx
    simpa using this
  | true =>
    right
    have hlt : xs.findIdx p < xs.length := List.findIdx_lt_length.2 (by simpa using h)
    refine ⟨xs.findIdx p, hlt, if_pos rfl, fun x hx => ?_, xs[xs.findIdx p], List.getElem?_eq_getElem hlt, List.findIdx_getElem⟩
    obtain ⟨j, hj, rfl⟩ := List.mem_take_iff_getElem.1 hx
    have := List.not_of_lt_findIdx (p := p) (xs := xs) (i := j) (by omega)
    simpa using this
/-- Behind j elements of which i were kept: the begin is what was kept, the rest is as_ it was. -/
structure Kept3 (p : S32 → Bool) (xs L : List S32) (i j : Nat) : Prop where
  len : L.length = xs.length
  lt : i < j
  le : j ≤ xs.length
  low : L.take i = (xs.take j).filter fun x => !p x
  high : ∀ k, j ≤ k → L[k]? = xs[k]?
theorem Kept3.start {p : S32 → Bool} {xs : List S32} {k : Nat} {y : S32} (hk : k < xs.length) (h : ∀ x ∈ xs.take k, p x = false) (hy : xs[k]? = some y) (hp : p y = true) : Kept3 p xs xs k (k + 1) := by
  refine ⟨rfl, Nat.lt_succ_self _, hk, ?_, fun _ _ => rfl⟩
  rw [List.take_add_one, hy, List.filter_append, List.filter_eq_self.2 (fun x hx => by rw [h x hx]; rfl)]
  simp [hp]
theorem Kept3.skip {p : S32 → Bool} {xs L : List S32} {i j : Nat} {y : S32} (h : Kept3 p xs L i j) (hy : xs[j]? = some y) (hp : p y = true) : Kept3 p xs L i (j + 1) := by
  have hj := (List.getElem?_eq_some_iff.1 hy).1
  refine ⟨h.len, Nat.lt_succ_of_lt h.lt, hj, ?_, fun k hk => h.high k (by omega)⟩
  rw [List.take_add_one, hy, List.filter_append, h.low]
  simp [hp]
theorem Kept3.keep {p : S32 → Bool} {xs L : List S32} {i j : Nat} {y : S32} (h : Kept3 p xs L i j) (hy : xs[j]? = some y) (hp : p y = false) : Kept3 p xs (L.set i y) (i + 1) (j + 1) := by
  have hj := (List.getElem?_eq_some_iff.1 hy).1
  have hlen := h.len
  have hlt := h.lt
  refine ⟨by rw [List.length_set]; exact h.len, by omega, hj, ?_, fun k hk => ?_⟩
  · rw [List.take_add_one, List.getElem?_set_self (by omega), List.take_set_of_le (Nat.le_refl _), h.low, List.take_add_one, hy, List.filter_append]
    simp [hp]
  · rw [List.getElem?_set_ne (by omega)]; exact h.high k (by omega)
theorem Row3.set {w : World} {g : Nat} {xs : List S32} (h : Row3 w g xs) (i : Nat) (hi : i < xs.length) (y : S32) : Row3 (w.setCells g (i * 3) (enc32 y)) g (xs.set i y) := by
  intro k x hk j u hu
  have hj : j < 3 := by have := (List.getElem?_eq_some_iff.1 hu).1; simpa [enc32] using this
  rw [World.frozen?_setCells]
  by_cases e : i = k
  · subst e
    rw [List.getElem?_set_self hi, Option.some.injEq] at hk
    subst hk
    have hin := World.cell?_setCells_in g (enc32 y) (i * 3) w (fun t ht => by
      have ht3 : t < 3 := by simpa [enc32] using ht
      have := (h i _ (List.getElem?_eq_getElem hi) t ((enc32 xs[i])[t]'(by simpa [enc32] using ht3)) (List.getElem?_eq_getElem _)).1
      rw [this]; rfl) j (by simpa [enc32] using hj)
    refine ⟨?_, (h i _ (List.getElem?_eq_getElem hi) j ((enc32 xs[i])[j]'(by simpa [enc32] using hj)) (List.getElem?_eq_getElem _)).2⟩
    rw [hin]
    have := (List.getElem?_eq_some_iff.1 hu).2
    rw [← this]
  · rw [List.getElem?_set_ne e] at hk
    rw [World.cell?_setCells_out g _ _ _ _ (fun _ _ => by simp [enc32]; omega)]
    exact h k x hk j u hu
theorem Row3.cut {w : World} {g : Nat} {xs : List S32} (h : Row3 w g xs) (i : Nat) (vs : List Value) : Row3 (w.setCells g (i * 3) vs) g (xs.take i) := by
  intro k x hk j u hu
  have hj : j < 3 := by have := (List.getElem?_eq_some_iff.1 hu).1; simpa [enc32] using this
  rw [List.getElem?_take] at hk
  split at hk
  · rw [World.frozen?_setCells, World.cell?_setCells_out g _ _ _ _ (fun _ _ => by left; show k * 3 + j < i * 3; omega)]
    exact h k x hk j u hu
  · cases hk
theorem below_sets {B g : Nat} {w0 w : World} (hg : B ≤ g) (vs : List Value) (o : Nat) (h : Below B w0 w) : Below B w0 (w.setCells g o vs) := by
  obtain ⟨s1, s2, s3, s4⟩ := setCells_same g vs o w
  exact ⟨s1.trans h.os, s2.trans h.tape, s3.trans h.output, by rw [s4]; exact h.size, fun i hi => (setCells_far vs o i (by omega)).trans (h.block i hi)⟩
/-- 'clear' at ranges: some cells are laid, from the first one on. -/
theorem run_clear3 (w : World) (b i n c : Nat) (L : List S32) (hR : Row3 w b L) (hn : 0 < n) (hL : i + n = L.length) : ∃ vs : List Value, ∀ ty, (Builtin.clear_ #[53] ty #[.slice (some ⟨b, i * 3, none⟩) n c]).run Tryd.prog w = .ok (.tuple #[]) (w.setCells b (i * 3) vs) := by
  have hv := Tryd.zeroValue32
  generalize hz : (Builtin.zeroCells (#[.string (⟨#[]⟩ : ByteArray), .string (⟨#[]⟩ : ByteArray), .bool false] : Array Value) n).toList = vs
  have hlen : vs.length = n * 3 := by rw [← hz]; simp [Builtin.zeroCells]
  have hone : ∀ v ∈ vs, v.oneCell' = true := by
    intro v hv'
    rw [← hz] at hv'
    simp only [Builtin.zeroCells, Array.toList_map, Array.toList_range, List.mem_map] at hv'
    obtain ⟨j, _, rfl⟩ := hv'
    have h3 : j % 3 = 0 ∨ j % 3 = 1 ∨ j % 3 = 2 := by omega
    show (#[Value.string (⟨#[]⟩ : ByteArray), .string (⟨#[]⟩ : ByteArray), .bool false][j % 3]!).oneCell' = true
    rcases h3 with e | e | e <;> rw [e] <;> rfl
  have hcell : ∀ j, j < vs.length → (w.cell? ⟨b, i * 3 + j, none⟩).isSome = true ∧ w.frozen? ⟨b, i * 3 + j, none⟩ = false := by
    intro j hj
    rw [hlen] at hj
    have hk : i + j / 3 < L.length := by omega
    have hj3 : j % 3 < (enc32 L[i + j / 3]).length := by show j % 3 < 3; omega
    have := hR (i + j / 3) _ (List.getElem?_eq_getElem hk) (j % 3) _ (List.getElem?_eq_getElem hj3)
    rw [show (i + j / 3) * 3 + j % 3 = i * 3 + j by omega] at this
    exact ⟨by rw [this.1]; rfl, this.2⟩
  have hst := run_storeCells_cells (P := Tryd.prog) b (i * 3) vs 0 w (fun j hj => by simpa using (hcell j hj).1) (fun j hj => by simpa using (hcell j hj).2) hone
  simp only [Nat.add_zero] at hst
  refine ⟨vs, fun ty => ?_⟩
  obtain ⟨m, rfl⟩ : ∃ m, n = m + 1 := ⟨n - 1, by omega⟩
  simp [Builtin.clear_, run_underlying Tryd.underlying53, hv, hz, hst, Value.cells]
set_option maxHeartbeats 4000000 in
set_option maxRecDepth 100000 in
theorem delf_rng (p : S32 → Bool) (g : Nat) (lb : Array Value) (eg : ∀ args w, (callFunc g args).run Tryd.prog w = .ok (.enter g args) w) (w0 : World) (gb cap : Nat) (xs : List S32) (w : World) (hR : Row3 w gb xs) (hl : xs.length ≤ 4611686018427387904) (hcap : xs.length ≤ cap) (h0 : w0.heap.size ≤ gb) (hB : Below w0.heap.size w0 w)
    (hp : ∀ (W : World) (x : S32), Calls Tryd.prog g (#[.agg (enc32 x).toArray] ++ lb) W fun e w' => e = .returned (.bool (p x)) ∧ Below W.heap.size W w') :
    Calls Tryd.prog 77 #[.slice (some ⟨gb, 0, none⟩) xs.length cap, .func (.func g) #[] lb] w fun e w' => e = .returned (.slice (some ⟨gb, 0, none⟩) (xs.filter fun x => !p x).length cap) ∧ Row3 w' gb (xs.filter fun x => !p x) ∧ Below w0.heap.size w0 w' ∧ w.heap.size ≤ w'.heap.size := by
  have hidx := idxf_rng p g lb eg (some ⟨gb, 0, none⟩) xs cap w (hR.C (by omega)) (fun W x hb => (hp W x).mono fun e w' h => ⟨h.1, Below.trans hb (h.2.mono hb.size)⟩)
  rcases idxF_cases p xs with ⟨e1, hall⟩ | ⟨k0, hk0, e1, hall, y0, hy0, hpy⟩
  · rw [e1] at hidx
    have hf : (xs.filter fun x => !p x) = xs := List.filter_eq_self.2 fun x hx => by rw [hall x hx]; rfl
    rw [hf]
    have HR := Aside0.mk hR
    have HB := Aside0.mk hB
    clear hR hB hp hf hall
    go_enter Tryd.func77, Tryd.ntmps77
    go_wp2_with (go_at_call 115; refine hidx.mono ?_; rintro e w' ⟨rfl, hb'⟩)
    go_ret
    refine ⟨rfl, ?_, below_step HB.out hb', hb'.size⟩
    intro i x hi
    exact Row3.below HR.out (HR.out.lt (by have := (List.getElem?_eq_some_iff.1 hi).1; omega)) hb' i x hi
  · rw [e1] at hidx
    have hlow : (k0 : Int) ≠ -1 := by omega
    have HR := Aside0.mk hR
    have HB := Aside0.mk hB
    have HP := Aside0.mk hp
    have HK := Aside0.mk (Kept3.start hk0 hall hy0 hpy)
    clear hR hB hp hall hy0 hpy
    go_enter Tryd.func77, Tryd.ntmps77
    go_wp2_with (go_at_call 115; refine hidx.mono ?_; rintro e w1 ⟨rfl, hb1⟩)
    have hgb := HR.out.lt (by omega)
    have HR1 := Aside0.mk (HR.out.below hgb hb1)
    have HB1 := Aside0.mk (below_step HB.out hb1)
    have HZ := Aside0.mk hb1.size
    have HG := Aside0.mk hgb
    clear hb1 hgb
    go_loopg [5, 6, 7] xs.length (fun gg s5 s6 _ wr => ∃ (i j : Nat) (L : List S32), s5 = .int .i64 i ∧ s6 = .int .i64 j ∧ Aside0 (Kept3 p xs L i j) ∧ Aside0 (xs.length - j ≤ gg) ∧ Aside0 (Row3 wr gb L) ∧ Aside0 (Below w0.heap.size w0 wr) ∧ Aside0 (w.heap.size ≤ wr.heap.size))
    case atStart => exact ⟨k0, k0 + 1, xs, rfl, by go_num, ⟨HK.out⟩, ⟨by omega⟩, ⟨HR1.out⟩, ⟨HB1.out⟩, ⟨HZ.out⟩⟩
    case round =>
      obtain ⟨i, j, L, rfl, rfl, HKk, HM, HRr, HBr, HZr⟩ := hrel
      have hlen := HKk.out.len
      have hij := HKk.out.lt
      have hjn := HKk.out.le
      by_cases hlt : j < xs.length
      · have hltz : (j : Int) < (xs.length : Int) := by omega
        obtain ⟨y, hy⟩ : ∃ y, xs[j]? = some y := ⟨_, List.getElem?_eq_getElem hlt⟩
        have hyL : L[j]? = some y := by rw [HKk.out.high j (Nat.le_refl _)]; exact hy
        obtain ⟨cx0, cx1, cx2, fx0, fx1, fx2⟩ := HRr.out.at0 hyL
        have hcall : ∀ W, Calls Tryd.prog g (#[.agg #[.string y.f0, .string y.f1, .bool y.f2]] ++ lb) W fun e w' => e = .returned (.bool (p y)) ∧ Below W.heap.size W w' := fun W => HP.out W y
        cases hq : p y with
        | true =>
          rw [hq] at hcall
          go_wp2_with (go_at_fn g; refine (hcall _).mono ?_; rintro e w' ⟨rfl, hb'⟩)
          have hgr : gb < wr.heap.size := by have := HG.out; have := HZr.out; omega
          have hbA : Below wr.heap.size wr w' := below_step (below_alloc (Below.refl _ wr) _) hb'
          go_roundg (xs.length - (j + 1))
          case measure => have := HM.out; omega
          case rel => exact ⟨i, j + 1, L, rfl, by go_num, ⟨HKk.out.skip hy hq⟩, ⟨Nat.le_refl _⟩, ⟨HRr.out.below hgr hbA⟩, ⟨below_step HBr.out hbA⟩, ⟨Nat.le_trans HZr.out hbA.size⟩⟩
        | false =>
          rw [hq] at hcall
          have hgr : gb < wr.heap.size := by have := HG.out; have := HZr.out; omega
          have hiL : i < L.length := by omega
          have hltI : (i : Int) < (xs.length : Int) := by omega
          go_wp2_with (go_at_fn g; refine (hcall _).mono ?_; rintro e w' ⟨rfl, hb'⟩; have hbA : Below wr.heap.size wr w' := below_step (below_alloc (Below.refl _ wr) _) hb'; have HRn := Aside0.mk (HRr.out.below hgr hbA); obtain ⟨dx0, dx1, dx2, gx0, gx1, gx2⟩ := HRn.out.at0 (List.getElem?_eq_getElem hiL); have vx0 := (hb'.cell (p := ⟨wr.heap.size, 0, none⟩) (by simp)).trans (show _ = some _ by simp; rfl); have vx1 := (hb'.cell (p := ⟨wr.heap.size, 1, none⟩) (by simp)).trans (show _ = some _ by simp; rfl); have vx2 := (hb'.cell (p := ⟨wr.heap.size, 2, none⟩) (by simp)).trans (show _ = some _ by simp; rfl))
          have hRs := HRn.out.set i hiL y
          have hws : (((w'.setCell ⟨gb, i * 3, none⟩ (.string y.f0)).setCell ⟨gb, i * 3 + 1, none⟩ (.string y.f1)).setCell ⟨gb, i * 3 + 2, none⟩ (.bool y.f2)) = w'.setCells gb (i * 3) (enc32 y) := rfl
          rw [hws]
          have hbS := below_sets h0 (enc32 y) (i * 3) (below_step HBr.out hbA)
          have hzS : (w'.setCells gb (i * 3) (enc32 y)).heap.size = w'.heap.size := (setCells_same gb (enc32 y) (i * 3) w').2.2.2
          go_roundg (xs.length - (j + 1))
          case measure => have := HM.out; omega
          case rel => exact ⟨i + 1, j + 1, L.set i y, by go_num, by go_num, ⟨HKk.out.keep hy hq⟩, ⟨Nat.le_refl _⟩, ⟨hRs⟩, ⟨hbS⟩, ⟨by rw [hzS]; exact Nat.le_trans HZr.out hbA.size⟩⟩
      · obtain rfl : j = xs.length := by omega
        have hltz : ¬ (xs.length : Int) < (xs.length : Int) := by omega
        obtain ⟨vs, hcl⟩ := run_clear3 wr gb i (xs.length - i) (cap - i) L HRr.out (by omega) (by omega)
        have hlow2 := HKk.out.low
        rw [List.take_of_length_le (Nat.le_refl _)] at hlow2
        have hfl : (xs.filter fun x => !p x).length = i := by rw [← hlow2, List.length_take]; omega
        have HL := Aside0.mk hlow2
        have HF := Aside0.mk hfl
        clear hlow2 hfl
        go_wp2
        go_ret
        rw [HF.out, ← HL.out]
        refine ⟨rfl, HRr.out.cut i vs, below_sets h0 vs (i * 3) HBr.out, ?_⟩
        rw [(setCells_same gb vs (i * 3) wr).2.2.2]
        exact HZr.out
theorem info32U : (Tryd.prog.info? 32).map (fun i => (i.zero, i.size, i.bytes)) = some (some (.agg #[(.string ⟨#[]⟩), (.string ⟨#[]⟩), (.bool false)]), 3, 40) := by kernel_rfl
theorem own3_parts {w : World} {base g n cap : Nat} {xs : List S32} (h : Kd.R k32 32 w base (fun _ => True) (.slice (some ⟨g, 0, none⟩) n cap) xs) : n = xs.length ∧ base ≤ g ∧ xs.length ≤ cap ∧ cap ≤ maxLen ∧ Row3 w g xs ∧ ∃ cur, w.heap[g]? = some (.cells cur 32 (0, 0)) ∧ cur.size = cap * 3 := by
  obtain ⟨_, inner, ⟨hlen, hor⟩, hreps⟩ := h
  replace hreps : Reps _ 3 xs inner := hreps
  rcases hor with ⟨e, _⟩ | ⟨g', cap', cur, e, hg, hh, hnc, hcm, hsz, htk⟩
  · simp at e
  · replace hsz : cur.size = cap' * 3 := hsz
    replace htk : cur.toList.take (xs.length * 3) = inner := htk
    simp only [Value.slice.injEq, Option.some.injEq, Addr.mk.injEq, and_true, true_and] at e
    obtain ⟨rfl, rfl, rfl⟩ := e
    refine ⟨rfl, hg, hnc, hcm, ?_, cur, hh, hsz⟩
    intro i x hx j u hu
    have hi := (List.getElem?_eq_some_iff.1 hx).1
    have hj : j < 3 := by have := (List.getElem?_eq_some_iff.1 hu).1; simpa [enc32] using this
    have hM := k32_openM (hreps.2 i x hx)
    have e1 : ((inner.drop (i * 3)).take 3)[j]? = some u := by rw [hM]; exact hu
    rw [List.getElem?_take, if_pos hj, List.getElem?_drop, ← htk, List.getElem?_take, if_pos (by omega)] at e1
    have e2 : cur[i * 3 + j]? = some u := by rw [← Array.getElem?_toList]; exact e1
    exact ⟨by simp [World.cell?, hh, e2], by simp [World.frozen?, hh]⟩
theorem own3_mk {w : World} {base g cap : Nat} {xs : List S32} {cur : Array Value} (hg : base ≤ g) (hn : xs.length ≤ cap) (hm : cap ≤ maxLen) (hr : Row3 w g xs) (hh : w.heap[g]? = some (.cells cur 32 (0, 0))) (hs : cur.size = cap * 3) : Kd.R k32 32 w base (fun _ => True) (.slice (some ⟨g, 0, none⟩) xs.length cap) xs := by
  have hcl : cur.toList.length = cap * 3 := by simpa using hs
  have hlen : (cur.toList.take (xs.length * 3)).length = xs.length * 3 := by rw [List.length_take, hcl]; omega
  refine ⟨fun _ _ => trivial, cur.toList.take (xs.length * 3), ⟨hlen, .inr ⟨g, cap, cur, rfl, hg, hh, hn, hm, hs, rfl⟩⟩, hlen, ?_⟩
  intro i x hx
  have hi := (List.getElem?_eq_some_iff.1 hx).1
  have e : ((cur.toList.take (xs.length * 3)).drop (i * 3)).take 3 = enc32 x := by
    apply List.ext_getElem?
    intro j
    by_cases hj : j < 3
    · obtain ⟨u, hu⟩ : ∃ u, (enc32 x)[j]? = some u := ⟨_, List.getElem?_eq_getElem (by show j < 3; exact hj)⟩
      have hc := (hr i x hx j u hu).1
      rw [hu, List.getElem?_take, if_pos hj, List.getElem?_drop, List.getElem?_take, if_pos (by omega), Array.getElem?_toList]
      simpa [World.cell?, hh] using hc
    · rw [List.getElem?_eq_none (by rw [List.length_take]; omega), List.getElem?_eq_none (by show 3 ≤ j; omega)]
  show k32.M _ _ _ x (((cur.toList.take (xs.length * 3)).drop (i * 3)).take 3)
  rw [e]
  exact k32_mkM _ _ _ x
/-- One cell of one element is laid. -/
theorem Row3.put {w : World} {g : Nat} {xs : List S32} (h : Row3 w g xs) {i : Nat} {x : S32} (hx : xs[i]? = some x) (y : S32) (j0 : Nat) (v : Value) (hj0 : (enc32 y)[j0]? = some v) (hy : ∀ j, j ≠ j0 → (enc32 y)[j]? = (enc32 x)[j]?) : Row3 (w.setCell ⟨g, i * 3 + j0, none⟩ v) g (xs.set i y) := by
  intro k z hk j u hu
  have hi := (List.getElem?_eq_some_iff.1 hx).1
  have hj : j < 3 := by have := (List.getElem?_eq_some_iff.1 hu).1; simpa [enc32] using this
  have hj0' : j0 < 3 := by have := (List.getElem?_eq_some_iff.1 hj0).1; simpa [enc32] using this
  rw [World.frozen?_setCell]
  by_cases e : i = k
  · subst e
    rw [List.getElem?_set_self hi, Option.some.injEq] at hk
    subst hk
    obtain ⟨u0, hu0⟩ : ∃ u0, (enc32 x)[j]? = some u0 := ⟨_, List.getElem?_eq_getElem (by show j < 3; exact hj)⟩
    have h0 := h i x hx j u0 hu0
    by_cases ej : j = j0
    · subst ej
      refine ⟨?_, h0.2⟩
      rw [hj0] at hu
      obtain rfl := Option.some.inj hu
      exact World.cell?_setCell_same _ _ _ h0.1
    · rw [hy j ej, hu0] at hu
      obtain rfl := Option.some.inj hu
      rw [World.cell?_setCell_other _ _ _ _ (by first | (simp; done) | (simp; omega))]
      exact h0
  · rw [List.getElem?_set_ne e] at hk
    rw [World.cell?_setCell_other _ _ _ _ (by first | (simp; done) | (simp; omega))]
    exact h k z hk j u hu
theorem put3 {w : World} {base g n cap : Nat} {xs : List S32} (h : Kd.R k32 32 w base (fun _ => True) (.slice (some ⟨g, 0, none⟩) n cap) xs) {i : Nat} {x : S32} (hx : xs[i]? = some x) (y : S32) (j0 : Nat) (v : Value) (hj0 : (enc32 y)[j0]? = some v) (hy : ∀ j, j ≠ j0 → (enc32 y)[j]? = (enc32 x)[j]?) :
    Kd.R k32 32 (w.setCell ⟨g, i * 3 + j0, none⟩ v) base (fun _ => True) (.slice (some ⟨g, 0, none⟩) n cap) (xs.set i y) := by
  obtain ⟨rfl, hg, hn, hm, hr, cur, hh, hs⟩ := own3_parts h
  have := own3_mk (xs := xs.set i y) hg (by rw [List.length_set]; exact hn) hm (hr.put hx y j0 v hj0 hy) (Go.Lib.heap_setCell_same (i := i * 3 + j0) hh v) (by simpa using hs)
  rwa [List.length_set] at this
set_option maxHeartbeats 4000000 in
set_option maxRecDepth 100000 in
/-- slices.Clone at ranges. -/
theorem clone_rng (xs : List S32) (A : Option Addr) (c : Nat) (w : World) (hC : Kd.C k32 w A xs.length xs) (hl : xs.length * 40 ≤ 140737488355328) :
    Calls Tryd.prog 78 #[.slice A xs.length c] w fun e w' => (A = none ∧ e = .returned (.slice none 0 0) ∧ w' = w) ∨ A ≠ none ∧ ∃ g cap, e = .returned (.slice (some ⟨g, 0, none⟩) xs.length cap) ∧ w.heap.size ≤ g ∧ g < w'.heap.size ∧ xs.length ≤ cap ∧ Row3 w' g xs ∧ Below w.heap.size w w' := by
  cases A with
  | none =>
    clear hC
    have q53 : ∀ (w : World) (a : Option Addr) (n c n' c' : Nat), (binOp .eql 53 (.slice a n c) (.slice none n' c')).run Tryd.prog w = .ok (.bool a.isNone) w := fun w a n c n' c' => Go.Lib.run_eql_slice_nil w _ _ a n c n' c' Tryd.underlying53
    have u53 : ∀ w, Sem.run Tryd.prog (underlying 53) w = .ok (TypeDesc.slice 32) w := run_underlying Tryd.underlying53
    go_enter Tryd.func78, Tryd.ntmps78
    go_wp2
    go_ret
    first | exact .inl ⟨rfl, rfl, rfl⟩ | simp
  | some ad =>
    obtain ⟨inner, hrep, hcells⟩ := ReadsRow.inner_ hC
    replace hrep : Reps (k32.K w) 3 xs inner := hrep
    have hlen := hrep.1
    have hone : ∀ u ∈ inner, u.oneCell' = true := by
      intro u hu
      obtain ⟨t, ht, e⟩ := List.getElem_of_mem hu
      have hk : t / 3 < xs.length := by omega
      have hK := k32_open (hrep.2 (t / 3) _ (List.getElem?_eq_getElem hk))
      have e1 : ((inner.drop (t / 3 * 3)).take 3)[t % 3]? = some u := by rw [List.getElem?_take, if_pos (by omega), List.getElem?_drop, show t / 3 * 3 + t % 3 = t by omega, List.getElem?_eq_getElem ht, e]
      rw [hK] at e1
      have h3 : t % 3 = 0 ∨ t % 3 = 1 ∨ t % 3 = 2 := by omega
      rcases h3 with q | q | q <;> rw [q] at e1 <;> (obtain rfl := Option.some.inj e1) <;> rfl
    have HI := Aside0.mk hrep
    have HC := Aside0.mk hcells
    have HL := Aside0.mk hlen
    have H1 := Aside0.mk hone
    obtain ⟨i0, hi, hz0, hz1, hz2⟩ := info_parts info32U
    clear hC hrep hcells hone hlen
    have q53 : ∀ (w : World) (a : Option Addr) (n c n' c' : Nat), (binOp .eql 53 (.slice a n c) (.slice none n' c')).run Tryd.prog w = .ok (.bool a.isNone) w := fun w a n c n' c' => Go.Lib.run_eql_slice_nil w _ _ a n c n' c' Tryd.underlying53
    have u53 : ∀ w, Sem.run Tryd.prog (underlying 53) w = .ok (TypeDesc.slice 32) w := run_underlying Tryd.underlying53
    go_enter Tryd.func78, Tryd.ntmps78
    go_wp2_with (at_builtin; refine wpList_append_own _ rfl _ _ 53 rfl w.heap.size 32 i0 (.agg #[(.string ⟨#[]⟩), (.string ⟨#[]⟩), (.bool false)]) 3 40 Tryd.underlying53 hi hz0 hz1 hz2 rfl (by decide) _ _ _ rfl (World.ownsRow_made w #[] 0 (Nat.le_refl _) (Nat.zero_le _) rfl) ad xs.length c inner rfl ?qc1 ?qc2 ?qc3 ?qc4 ?qc5 ?qc6 ?_)
    case qc1 => exact HL.out
    case qc2 => intro j u hj; exact Go.Lib.cell?_alloc_some _ (HC.out j u hj)
    case qc3 => exact H1.out
    case qc4 => unfold maxLen; omega
    case qc5 => omega
    case qc6 => simp
    intro v' w1 hown hgrow hnil
    go_wp2
    go_ret
    have hne : v' ≠ .slice none 0 0 := fun e => by first | exact hnil e | (have := (hnil.1 e).1; simp at this)
    have hown2 : w1.ownsRow w.heap.size 32 3 v' xs.length inner := by simpa using hown
    have hR : Kd.R k32 32 w1 w.heap.size (fun _ => True) v' xs := ⟨fun _ _ => trivial, inner, hown2, HI.out.imp_ fun p cs hp => by rw [k32_open hp]; exact k32_mkM _ _ _ p⟩
    have hb : Below w.heap.size w w1 := ((Below.refl _ w).alloc (Nat.le_refl _) _).grown hgrow (by simp) (by intro k hk; simp [Value.ownBlock] at hk; omega)
    rcases hown2.2 with ⟨e, _⟩ | ⟨g, cap, cur, rfl, hg, hh, hnc, _⟩
    · exact absurd e hne
    · obtain ⟨_, _, hcap, _, hrow, _, _, _⟩ := own3_parts hR
      exact .inr ⟨by simp, g, cap, by simp, hg, blk_lt hh, hcap, hrow, hb⟩
theorem cmpB_lt : ∀ a b : List UInt8, Lib.compareBytes a b < 0 ↔ a < b
  | [], [] => by simp [Lib.compareBytes]
  | [], _ :: _ => by simp [Lib.compareBytes]
  | _ :: _, [] => by simp [Lib.compareBytes]
  | x :: a, y :: b => by
    unfold Lib.compareBytes
    rw [List.cons_lt_cons_iff]
    by_cases h1 : x < y
    · simp [h1]
    · by_cases h2 : y < x
      · have : ¬ x = y := fun e => by subst e; exact h1 h2
        simp [h1, h2, this]
      · have : x = y := UInt8.le_antisymm (UInt8.not_lt.1 h2) (UInt8.not_lt.1 h1)
        simp [h1, h2, this, cmpB_lt a b]
/-- How ranges are sorted: by their first key. -/
def lowCmp (x y : S32) : Int := Lib.compareBytes x.f0.data.toList y.f0.data.toList
theorem lowCmp_lt (x y : S32) : Go.Proofs.ltOf lowCmp x y = true ↔ x.f0.data.toList < y.f0.data.toList := by
  unfold Go.Proofs.ltOf lowCmp
  rw [decide_eq_true_iff, cmpB_lt]
theorem lowCmp_swo : Go.Sort.SWO (Go.Proofs.ltOf lowCmp) := by
  have e : ∀ x y, Go.Proofs.ltOf lowCmp x y = false ↔ ¬ x.f0.data.toList < y.f0.data.toList := fun x y => by rw [← lowCmp_lt, Bool.not_eq_true]
  refine ⟨fun x => (e x x).2 (List.lt_irrefl _), fun x y z h1 h2 => (lowCmp_lt x z).2 (List.lt_trans ((lowCmp_lt x y).1 h1) ((lowCmp_lt y z).1 h2)), fun x y z h1 h2 => (e x z).2 ?_⟩
  exact List.not_lt.2 (List.le_trans (List.not_lt.1 ((e y z).1 h2)) (List.not_lt.1 ((e x y).1 h1)))
theorem grow_two (w : World) (a b : Obj) : ∃ q os, (w.alloc a).alloc b = Go.Sort.grow (w.drewN q) os := by
  have e2 : ∀ (h : Array Obj), (h.push a).push b = h ++ #[a, b] := fun h => by apply Array.ext'; simp
  refine ⟨0, #[a, b], ?_⟩
  show { w with heap := (w.heap.push a).push b } = _
  rw [e2]
  rfl
set_option maxHeartbeats 4000000 in
set_option maxRecDepth 100000 in
/-- code.Union$1: how two ranges stand. -/
theorem low_rng (x y : S32) (w : World) : Calls Tryd.prog 80 #[.agg (enc32 x).toArray, .agg (enc32 y).toArray] w fun e w' => e = .returned (.int .i64 (lowCmp x y)) ∧ ∃ q os, w' = Go.Sort.grow (w.drewN q) os := by
  unfold enc32
  go_enter Tryd.func80, Tryd.ntmps80
  go_wp2_with (go_at_call 81; refine (Tryd.strings_Compare _ _ _).mono ?_; rintro e w' ⟨rfl, rfl⟩)
  go_ret
  refine ⟨rfl, ?_⟩
  exact grow_two w _ _
instance instInhS32U : Inhabited S32 := ⟨⟨⟨#[]⟩, ⟨#[]⟩, false⟩⟩
theorem Row3.holds {w : World} {g : Nat} {xs : List S32} (h : Row3 w g xs) : Go.Sort.HoldsK enc32 3 w g 0 xs.toArray := by
  intro j hj
  rw [Go.Sort.size_flatK] at hj
  have hj' : j < xs.length * 3 := by simpa using hj
  rw [Go.Sort.get_flatK _ _ _ _ hj]
  have hi : j / 3 < xs.length := by omega
  have e1 : xs.toArray[j / 3]! = xs[j / 3] := by simp [hi]
  have h3 : j % 3 < (enc32 xs[j / 3]).length := by show j % 3 < 3; omega
  have := h (j / 3) _ (List.getElem?_eq_getElem hi) (j % 3) _ (List.getElem?_eq_getElem h3)
  rw [show j / 3 * 3 + j % 3 = 0 + j by omega] at this
  rw [e1, getElem!_pos (enc32 xs[j / 3]) (j % 3) h3]
  exact this
theorem Row3.of_holds {w : World} {g : Nat} {d : Array S32} (h : Go.Sort.HoldsK enc32 3 w g 0 d) : Row3 w g d.toList := by
  intro i x hx j u hu
  have hj : j < 3 := by have := (List.getElem?_eq_some_iff.1 hu).1; simpa [enc32] using this
  have hi : i < d.size := by have := (List.getElem?_eq_some_iff.1 hx).1; simpa using this
  have := h.cell hi hj
  rw [Nat.zero_add] at this
  have e1 : d[i]! = x := by
    rw [getElem!_pos d i hi]
    have := (List.getElem?_eq_some_iff.1 hx).2
    simpa using this
  have h3 : j < (enc32 x).length := by show j < 3; exact hj
  have e2 : (enc32 x)[j]! = u := by
    rw [getElem!_pos (enc32 x) j h3]
    exact (List.getElem?_eq_some_iff.1 hu).2
  rw [e1, e2] at this
  exact this
theorem sort_below {w : World} {g B : Nat} (hg : B ≤ g) (hgw : g < w.heap.size) (m : Nat) (d : Array S32) (os : Array Obj) : Below B w (Go.Proofs.sortWorldK enc32 3 w g 0 m d os) := by
  refine ⟨rfl, rfl, rfl, Go.Proofs.size_sortWorldK_c enc32 3 w g 0 m d os, fun k hk => ?_⟩
  show ((w.heap.modify g _) ++ os)[k]? = w.heap[k]?
  rw [Array.getElem?_append_left (by simp; omega), Array.getElem?_modify, if_neg (by omega)]
/-- slices.SortFunc at ranges, by their first keys. -/
theorem sorted_rng (w0 : World) (gb cap : Nat) (xs : List S32) (w : World) (hR : Row3 w gb xs) (hl : xs.length < 4611686018427387904) (h0 : w0.heap.size ≤ gb) (hgb : gb < w.heap.size) (hB : Below w0.heap.size w0 w) :
    Calls Tryd.prog 79 #[.slice (some ⟨gb, 0, none⟩) xs.length cap, .func (.func 80) #[] #[]] w fun e w' => e = .returned (.tuple #[]) ∧ ∃ ys, ys.Perm xs ∧ ys.Pairwise (fun a b => ¬ b.f0.data.toList < a.f0.data.toList) ∧ Row3 w' gb ys ∧ Below w0.heap.size w0 w' ∧ w.heap.size ≤ w'.heap.size := by
  have hH := hR.holds
  have h := Go.Proofs.Tryd.sortRng enc32 (fun _ => rfl) (fun x v hv => by simp only [enc32, List.mem_cons, List.not_mem_nil, or_false] at hv; rcases hv with rfl | rfl | rfl <;> rfl) lowCmp lowCmp_swo 80 #[] gb 0 cap xs.toArray w (enters_of Tryd.func80 (by kernel_rfl) rfl) (fun m os dk hs x y => low_rng x y _) hH hgb (by simpa using hl)
  have e0 : xs.toArray.size = xs.length := by simp
  rw [e0] at h
  refine h.mono ?_
  rintro e w' ⟨rfl, d', n, os, hperm, hsort, rfl⟩
  have hsz : d'.size = xs.length := by have := hperm.1; simpa using this
  refine ⟨rfl, d'.toList, ?_, ?_, ?_, Below.trans hB (sort_below h0 hgb n d' os), Go.Proofs.size_sortWorldK_c enc32 3 w gb 0 n d' os⟩
  · have := hperm.2.2
    have e3 : d'.extract 0 xs.length = d' := by rw [← hsz]; simp
    have e4 : xs.toArray.extract 0 xs.length = xs.toArray := by rw [← e0]; simp
    rw [e3, e4] at this
    simpa using this
  · rw [List.pairwise_iff_getElem]
    intro i j hi hj hij
    have hi' : i < d'.size := by simpa using hi
    have hj' : j < d'.size := by simpa using hj
    have := hsort i j (Nat.zero_le _) hij (by rw [← hsz]; exact hj')
    rw [getElem!_pos d' i hi', getElem!_pos d' j hj'] at this
    intro hlt
    have h2 := (lowCmp_lt d'[j] d'[i]).2 (by simpa using hlt)
    rw [h2] at this
    cases this
  · exact Row3.of_holds (Go.Proofs.holdsK_sortWorldK_c enc32 3 w gb 0 _ d' n os hH hgb (by rw [hsz, e0]))
end Go.Proofs.YtpiifdbicibelaaDoor.PA
end
