/- Part 2 of what the proof of CodeUnites stands on: words for walks, printed functions with their contracts, plain laws. -/
import Derived.Test.YtpiifdbicibelaaDoorKCodeUnites0
section
namespace Go.Proofs.YtpiifdbicibelaaDoor.PA
open Go.RowKit Go.Proofs.YtpiifdbicibelaaDoorW.PrintWords Go.Proofs.YtpiifdbicibelaaDoorW.PrintLast Go.Proofs.YtpiifdbicibelaaDoorW.PrintMore
attribute [local go_sem] max2_int min2_int max_two min_two max_three min_three max_four min_four
set_option linter.unusedVariables false
set_option linter.unusedSimpArgs false
set_option maxHeartbeats 8000000 in
set_option maxRecDepth 100000 in
theorem value_Plain.calls (k : Nat) (a0_0 : Int) (a0_1 : Int) (a0_2 : Nat) (a0_3 : ByteArray) (r1 : Int) (r2 : Int) (r3 : Nat) (r4 : ByteArray) (w : World) (h : value_Plain.f k a0_0 a0_1 a0_2 a0_3 = some (r1, r2, r3, r4)) :
    Calls Tryd.prog 102 #[.agg #[.int .i64 a0_0, .int .i64 a0_1, .float .f64 a0_2, .string a0_3]] w fun e w' => e = .returned (.agg #[.int .i64 r1, .int .i64 r2, .float .f64 r3, .string r4]) ∧ Below w.heap.size w w' := by
  have hu50 := Tryd.underlying50
  have HB := am (Below.refl w.heap.size w)
  have H : (if a0_0 = 3 then (if (feq a0_2 0) = true then (value_Plain.j0 k a0_0 a0_1 0 a0_3) else (value_Plain.j0 k a0_0 a0_1 a0_2 a0_3)) else (some (a0_0, a0_1, a0_2, a0_3))) = some (r1, r2, r3, r4) := h
  clear h
  by_cases c2 : a0_0 = 3
  · rw [if_pos c2] at H
    have c2b0 : (a0_0 == 3) = true := beq_iff_eq.mpr c2
    have c2b1 : (a0_0 != 3) = false := bne_eq_false_iff_eq.mpr c2
    clear c2
    have HC3 := am H
    clear H
    go_enter Tryd.func102, Tryd.ntmps102
    go_upto_if 9 with (first | ((with_reducible refine gate_dst (N := 1) rfl ?_); refine box_event rfl (N := 1) rfl (cs := #[.int .i64 a0_0, .int .i64 a0_1, .float .f64 a0_2, .string a0_3]) (t := 50) gs ?_; intro gb138 hg w4 hbox hb; have BK138 := am (hbox); have GW138 := gw hg HB; have GE138 := gw hg HB; replace HB := sb HB hb; clear hb hbox hg) | ((with_reducible refine gate_dst (N := 2) rfl ?_); refine box_event rfl (N := 2) rfl (cs := #[.int .i64 0, .int .i64 0, .float .f64 0, .string (⟨#[]⟩ : ByteArray)]) (t := 50) gs ?_; intro gb139 hg w5 hbox hb; have BK139 := am (hbox); have GW139 := gw hg HB; have GE139 := gw hg HB; have NB138_139 := am ((by rw [hg]; exact Nat.ne_of_lt (blk_lt (bk BK138)) : gb138 ≠ gb139)); have NB139_138 := am ((by rw [hg]; exact Nat.ne_of_gt (blk_lt (bk BK138)) : gb139 ≠ gb138)); replace BK138 := kb BK138 hb; replace HB := sb HB hb; clear hb hbox hg; have hnb6 := NB138_139.out; have hnc6 := NB139_138.out; obtain ⟨Z7_0, Z7_1, Z7_2, Z7_3, Y7_0, Y7_1, Y7_2, Y7_3⟩ := bq4 BK138))
    (try simp only [Act.put, List.setIfInBounds_toArray, List.set_cons_zero, List.set_cons_succ])
    go_cut [] (fun wc => ∃ (kq : Nat) (x139002_2 : Nat), Aside0 (value_Plain.j0 kq a0_0 a0_1 x139002_2 a0_3 = some (r1, r2, r3, r4)) ∧ Aside0 (kq ≤ k) ∧ Aside0 (wc.heap[gb138]? = some (.cells #[.int .i64 a0_0, .int .i64 a0_1, .float .f64 x139002_2, .string a0_3] 50 (0, 0))) ∧ Aside0 (wc.heap[gb139]? = some (.cells #[.int .i64 0, .int .i64 0, .float .f64 0, .string (⟨#[]⟩ : ByteArray)] 50 (0, 0))) ∧ Aside0 (Below w.heap.size w wc))
    case first =>
      have H := HC3.out
      clear HC3
      by_cases c8 : (feq a0_2 0) = true
      · rw [if_pos c8] at H
        have c8b0 : (feq a0_2 0) = true := c8
        clear c8
        (first | rw [c8b0] | (simp only [i64_w, i32_w]; rw [c8b0]) | skip)
        have H' := am H
        clear H
        have hnb9 := NB138_139.out
        have hnc9 := NB139_138.out
        obtain ⟨Z10_0, Z10_1, Z10_2, Z10_3, Y10_0, Y10_1, Y10_2, Y10_3⟩ := bq4 BK138
        go_wp2
        go_meet
        case rel => exact ⟨_, (0), H', ⟨by first | omega | exact Nat.le_refl _⟩, ⟨by refine rp ?_; refine blk_put (cs := #[.int .i64 a0_0, .int .i64 a0_1, .float .f64 a0_2, .string a0_3]) ?_ 2 _ rfl; exact bk BK138⟩, ⟨by refine rp ?_; refine blk_far ?_ NB139_138.out _; exact bk BK139⟩, ⟨bl HB⟩⟩
      · rw [if_neg c8] at H
        have c8b0 : (feq a0_2 0) = false := by simpa using c8
        clear c8
        (first | rw [c8b0] | (simp only [i64_w, i32_w]; rw [c8b0]) | skip)
        have H' := am H
        clear H
        go_wp2
        go_meet
        case rel => exact ⟨_, (a0_2), H', ⟨by first | omega | exact Nat.le_refl _⟩, ⟨bk BK138⟩, ⟨bk BK139⟩, ⟨bl HB⟩⟩
    case rest =>
      clear HC3
      try clear c1
      try clear c2
      try clear c2b0
      try clear c2b1
      try clear p2
      try clear c6
      try clear c8
      try clear c8b0
      try clear c9
      try clear c10
      try clear Z10_0
      try clear Z10_1
      try clear Z10_2
      try clear Z10_3
      try clear Z7_0
      try clear Z7_1
      try clear Z7_2
      try clear Z7_3
      try clear Y10_0
      try clear Y10_1
      try clear Y10_2
      try clear Y10_3
      try clear Y7_0
      try clear Y7_1
      try clear Y7_2
      try clear Y7_3
      obtain ⟨kq, x139002_2, HA, HJ2, BK138, BK139, HB⟩ := hcut
      cases kq with
      | zero => exact absurd HA.out (by simp [value_Plain.j0])
      | succ kj2 =>
        have H := HA.out
        clear HA
        simp only [value_Plain.j0] at H
        replace H := Option.bind_eq_some_iff.mp H
        obtain ⟨t140, A110, H⟩ := H
        replace H : (if t140 = true then (some (a0_0, a0_1, 9221120237041090560, a0_3)) else (some (a0_0, a0_1, x139002_2, a0_3))) = some (r1, r2, r3, r4) := H
        have A11 := am A110
        clear A110
        by_cases c12 : t140 = true
        · subst c12
          have H1 : (some (a0_0, a0_1, 9221120237041090560, a0_3)) = some (r1, r2, r3, r4) := by rw [if_pos rfl] at H; exact H
          clear H
          have H := H1
          clear H1
          simp only [Option.some.injEq, Prod.mk.injEq] at H
          obtain ⟨rfl, rfl, rfl, rfl⟩ := H
          have hnb13 := NB138_139.out
          have hnc13 := NB139_138.out
          obtain ⟨Z14_0, Z14_1, Z14_2, Z14_3, Y14_0, Y14_1, Y14_2, Y14_3⟩ := bq4 BK138
          go_wp2_with (first | ((with_reducible refine gate_callee (f := 140) rfl ?_); refine goesL_ (some 13) rfl rfl Tryd.func140 (by kernel_rfl) rfl #[.float .f64 x139002_2] rfl ar ?_; (with_reducible refine (math_IsNaN.calls x139002_2 true _ A11.out).mono ?_); rintro e w' ⟨rfl, ⟨nd, rfl⟩⟩; refine ⟨_, rfl, ?_⟩; (try (rw [drewN_self wc]; generalize hq_ : World.drewN wc _ = wc; have n0_ : Aside0 (wc.heap[gb138]? = some (.cells #[.int .i64 a0_0, .int .i64 a0_1, .float .f64 x139002_2, .string a0_3] 50 (0, 0))) := ⟨by rw [← hq_]; exact (bk BK138)⟩; have n1_ : Aside0 (wc.heap[gb139]? = some (.cells #[.int .i64 0, .int .i64 0, .float .f64 0, .string (⟨#[]⟩ : ByteArray)] 50 (0, 0))) := ⟨by rw [← hq_]; exact (bk BK139)⟩; have n2_ : Aside0 (Below w.heap.size w wc) := ⟨by rw [← hq_]; exact (bl HB)⟩; clear BK138 BK139 HB hq_; have BK138 := n0_; have BK139 := n1_; have HB := n2_; clear n0_ n1_ n2_)); (try have Zuz15 : wc.cell? ⟨gb138, 0, none⟩ = some (.int .i64 a0_0) := (blk_cell BK138.out 0).trans rfl); (try have Yuz15 := blk_frozen BK138.out 0); (try have Zuz16 : wc.cell? ⟨gb138, 1, none⟩ = some (.int .i64 a0_1) := (blk_cell BK138.out 1).trans rfl); (try have Yuz16 := blk_frozen BK138.out 1); (try have Zuz17 : wc.cell? ⟨gb138, 2, none⟩ = some (.float .f64 x139002_2) := (blk_cell BK138.out 2).trans rfl); (try have Yuz17 := blk_frozen BK138.out 2); (try have Zuz18 : wc.cell? ⟨gb138, 3, none⟩ = some (.string a0_3) := (blk_cell BK138.out 3).trans rfl); (try have Yuz18 := blk_frozen BK138.out 3); (try have Zuz19 : wc.cell? ⟨gb139, 0, none⟩ = some (.int .i64 0) := (blk_cell BK139.out 0).trans rfl); (try have Yuz19 := blk_frozen BK139.out 0); (try have Zuz20 : wc.cell? ⟨gb139, 1, none⟩ = some (.int .i64 0) := (blk_cell BK139.out 1).trans rfl); (try have Yuz20 := blk_frozen BK139.out 1); (try have Zuz21 : wc.cell? ⟨gb139, 2, none⟩ = some (.float .f64 0) := (blk_cell BK139.out 2).trans rfl); (try have Yuz21 := blk_frozen BK139.out 2); (try have Zuz22 : wc.cell? ⟨gb139, 3, none⟩ = some (.string (⟨#[]⟩ : ByteArray)) := (blk_cell BK139.out 3).trans rfl); (try have Yuz22 := blk_frozen BK139.out 3); obtain ⟨Z23_0, Z23_1, Z23_2, Z23_3, Y23_0, Y23_1, Y23_2, Y23_3⟩ := bq4 BK139))
          refine bodyPost_ret (results_cell_row rfl _ _ gb139 50 #[.int .i64 a0_0, .int .i64 a0_1, .float .f64 9221120237041090560, .string a0_3] (0, 0) _ rfl (by refine rp ?_; refine blk_put (cs := #[.int .i64 a0_0, .int .i64 a0_1, .float .f64 9221120237041090560, .string (⟨#[]⟩ : ByteArray)]) ?_ 3 _ rfl; refine rp ?_; refine blk_put (cs := #[.int .i64 a0_0, .int .i64 a0_1, .float .f64 0, .string (⟨#[]⟩ : ByteArray)]) ?_ 2 _ rfl; refine rp ?_; refine blk_put (cs := #[.int .i64 a0_0, .int .i64 0, .float .f64 0, .string (⟨#[]⟩ : ByteArray)]) ?_ 1 _ rfl; refine rp ?_; refine blk_put (cs := #[.int .i64 0, .int .i64 0, .float .f64 0, .string (⟨#[]⟩ : ByteArray)]) ?_ 0 _ rfl; refine rp ?_; refine blk_far ?_ NB139_138.out _; exact bk BK139) Tryd.underlying50 rfl (by kernel_rfl)) rfl ?_
          exact ⟨er, bl HB⟩
        · replace c12 := Bool.eq_false_iff.mpr c12
          subst c12
          have H1 : (some (a0_0, a0_1, x139002_2, a0_3)) = some (r1, r2, r3, r4) := by rw [if_neg (show ¬ (false = true) by decide)] at H; exact H
          clear H
          have H := H1
          clear H1
          simp only [Option.some.injEq, Prod.mk.injEq] at H
          obtain ⟨rfl, rfl, rfl, rfl⟩ := H
          have hnb24 := NB138_139.out
          have hnc24 := NB139_138.out
          obtain ⟨Z25_0, Z25_1, Z25_2, Z25_3, Y25_0, Y25_1, Y25_2, Y25_3⟩ := bq4 BK138
          go_wp2_with (first | ((with_reducible refine gate_callee (f := 140) rfl ?_); refine goesL_ (some 13) rfl rfl Tryd.func140 (by kernel_rfl) rfl #[.float .f64 x139002_2] rfl ar ?_; (with_reducible refine (math_IsNaN.calls x139002_2 false _ A11.out).mono ?_); rintro e w' ⟨rfl, ⟨nd, rfl⟩⟩; refine ⟨_, rfl, ?_⟩; (try (rw [drewN_self wc]; generalize hq_ : World.drewN wc _ = wc; have n0_ : Aside0 (wc.heap[gb138]? = some (.cells #[.int .i64 a0_0, .int .i64 a0_1, .float .f64 x139002_2, .string a0_3] 50 (0, 0))) := ⟨by rw [← hq_]; exact (bk BK138)⟩; have n1_ : Aside0 (wc.heap[gb139]? = some (.cells #[.int .i64 0, .int .i64 0, .float .f64 0, .string (⟨#[]⟩ : ByteArray)] 50 (0, 0))) := ⟨by rw [← hq_]; exact (bk BK139)⟩; have n2_ : Aside0 (Below w.heap.size w wc) := ⟨by rw [← hq_]; exact (bl HB)⟩; clear BK138 BK139 HB hq_; have BK138 := n0_; have BK139 := n1_; have HB := n2_; clear n0_ n1_ n2_)); (try have Zuz26 : wc.cell? ⟨gb138, 0, none⟩ = some (.int .i64 a0_0) := (blk_cell BK138.out 0).trans rfl); (try have Yuz26 := blk_frozen BK138.out 0); (try have Zuz27 : wc.cell? ⟨gb138, 1, none⟩ = some (.int .i64 a0_1) := (blk_cell BK138.out 1).trans rfl); (try have Yuz27 := blk_frozen BK138.out 1); (try have Zuz28 : wc.cell? ⟨gb138, 2, none⟩ = some (.float .f64 x139002_2) := (blk_cell BK138.out 2).trans rfl); (try have Yuz28 := blk_frozen BK138.out 2); (try have Zuz29 : wc.cell? ⟨gb138, 3, none⟩ = some (.string a0_3) := (blk_cell BK138.out 3).trans rfl); (try have Yuz29 := blk_frozen BK138.out 3); (try have Zuz30 : wc.cell? ⟨gb139, 0, none⟩ = some (.int .i64 0) := (blk_cell BK139.out 0).trans rfl); (try have Yuz30 := blk_frozen BK139.out 0); (try have Zuz31 : wc.cell? ⟨gb139, 1, none⟩ = some (.int .i64 0) := (blk_cell BK139.out 1).trans rfl); (try have Yuz31 := blk_frozen BK139.out 1); (try have Zuz32 : wc.cell? ⟨gb139, 2, none⟩ = some (.float .f64 0) := (blk_cell BK139.out 2).trans rfl); (try have Yuz32 := blk_frozen BK139.out 2); (try have Zuz33 : wc.cell? ⟨gb139, 3, none⟩ = some (.string (⟨#[]⟩ : ByteArray)) := (blk_cell BK139.out 3).trans rfl); (try have Yuz33 := blk_frozen BK139.out 3); obtain ⟨Z34_0, Z34_1, Z34_2, Z34_3, Y34_0, Y34_1, Y34_2, Y34_3⟩ := bq4 BK139))
          refine bodyPost_ret (results_cell_row rfl _ _ gb139 50 #[.int .i64 a0_0, .int .i64 a0_1, .float .f64 x139002_2, .string a0_3] (0, 0) _ rfl (by refine rp ?_; refine blk_put (cs := #[.int .i64 a0_0, .int .i64 a0_1, .float .f64 x139002_2, .string (⟨#[]⟩ : ByteArray)]) ?_ 3 _ rfl; refine rp ?_; refine blk_put (cs := #[.int .i64 a0_0, .int .i64 a0_1, .float .f64 0, .string (⟨#[]⟩ : ByteArray)]) ?_ 2 _ rfl; refine rp ?_; refine blk_put (cs := #[.int .i64 a0_0, .int .i64 0, .float .f64 0, .string (⟨#[]⟩ : ByteArray)]) ?_ 1 _ rfl; refine rp ?_; refine blk_put (cs := #[.int .i64 0, .int .i64 0, .float .f64 0, .string (⟨#[]⟩ : ByteArray)]) ?_ 0 _ rfl; exact bk BK139) Tryd.underlying50 rfl (by kernel_rfl)) rfl ?_
          exact ⟨er, bl HB⟩
  · rw [if_neg c2] at H
    have c2b0 : (a0_0 == 3) = false := beq_eq_false_iff_ne.mpr c2
    have c2b1 : (a0_0 != 3) = true := bne_iff_ne.mpr c2
    simp only [Option.some.injEq, Prod.mk.injEq] at H
    obtain ⟨rfl, rfl, rfl, rfl⟩ := H
    go_enter Tryd.func102, Tryd.ntmps102
    go_wp2_with (first | ((with_reducible refine gate_dst (N := 1) rfl ?_); refine box_event rfl (N := 1) rfl (cs := #[.int .i64 a0_0, .int .i64 a0_1, .float .f64 a0_2, .string a0_3]) (t := 50) gs ?_; intro gb138 hg w35 hbox hb; have BK138 := am (hbox); have GW138 := gw hg HB; have GE138 := gw hg HB; replace HB := sb HB hb; clear hb hbox hg) | ((with_reducible refine gate_dst (N := 2) rfl ?_); refine box_event rfl (N := 2) rfl (cs := #[.int .i64 0, .int .i64 0, .float .f64 0, .string (⟨#[]⟩ : ByteArray)]) (t := 50) gs ?_; intro gb139 hg w36 hbox hb; have BK139 := am (hbox); have GW139 := gw hg HB; have GE139 := gw hg HB; have NB138_139 := am ((by rw [hg]; exact Nat.ne_of_lt (blk_lt (bk BK138)) : gb138 ≠ gb139)); have NB139_138 := am ((by rw [hg]; exact Nat.ne_of_gt (blk_lt (bk BK138)) : gb139 ≠ gb138)); replace BK138 := kb BK138 hb; replace HB := sb HB hb; clear hb hbox hg; have hnb37 := NB138_139.out; have hnc37 := NB139_138.out; obtain ⟨Z38_0, Z38_1, Z38_2, Z38_3, Y38_0, Y38_1, Y38_2, Y38_3⟩ := bq4 BK138; obtain ⟨Z39_0, Z39_1, Z39_2, Z39_3, Y39_0, Y39_1, Y39_2, Y39_3⟩ := bq4 BK139))
    refine bodyPost_ret (results_cell_row rfl _ _ gb139 50 #[.int .i64 a0_0, .int .i64 a0_1, .float .f64 a0_2, .string a0_3] (0, 0) _ rfl (by refine rp ?_; refine blk_put (cs := #[.int .i64 a0_0, .int .i64 a0_1, .float .f64 a0_2, .string (⟨#[]⟩ : ByteArray)]) ?_ 3 _ rfl; refine rp ?_; refine blk_put (cs := #[.int .i64 a0_0, .int .i64 a0_1, .float .f64 0, .string (⟨#[]⟩ : ByteArray)]) ?_ 2 _ rfl; refine rp ?_; refine blk_put (cs := #[.int .i64 a0_0, .int .i64 0, .float .f64 0, .string (⟨#[]⟩ : ByteArray)]) ?_ 1 _ rfl; refine rp ?_; refine blk_put (cs := #[.int .i64 0, .int .i64 0, .float .f64 0, .string (⟨#[]⟩ : ByteArray)]) ?_ 0 _ rfl; exact bk BK139) Tryd.underlying50 rfl (by kernel_rfl)) rfl ?_
    exact ⟨er, bl HB⟩
def code_putString.f (l0 : List Int) (a1 : ByteArray) : Option (List Int) := (strings_ReplaceAll.f a1 (⟨#[0]⟩ : ByteArray) (⟨#[0, 255]⟩ : ByteArray)).bind fun t141 => (if l0.length + t141.size < 140737488355328 then ((some (l0 ++ bytesOf t141 : List Int)).bind fun y142 => (if y142.length < 140737488355328 then (some (y142 ++ [0])) else (none))) else (none))
set_option maxHeartbeats 8000000 in
set_option maxRecDepth 100000 in
theorem code_putString.calls (P0_ : Nat → Prop) (u9000_ : Value) (l0 : List Int) (a1 : ByteArray) (r : List Int) (w0 w : World) (hB : Below w0.heap.size w0 w) (ho0 : Kd.R (Kd.int .u8) 5 w w0.heap.size P0_ u9000_ l0) (hG : Glob w0) (h : code_putString.f l0 a1 = some r) :
    Calls Tryd.prog 103 #[u9000_, .string a1] w fun e w' => ∃ v0_ : Value, e = .returned (v0_) ∧ Kd.R (Kd.int .u8) 5 w' w0.heap.size (fun k_ => (P0_ k_ ∨ w.heap.size ≤ k_)) v0_ r ∧ Below w0.heap.size w0 w' ∧ Kept w w' (fun k_ => P0_ k_) := by
  have HO0 := am (show Kd.R (Kd.int .u8) 5 w w0.heap.size (fun k_ => (P0_ k_ ∨ w.heap.size ≤ k_)) u9000_ l0 from Kd.R_mono ho0 (fun k_ hk => (.inl hk)))
  have HG := am hG
  clear hG
  have HK := am (Kept.refl w (fun k_ => P0_ k_))
  have HW0 := am hB.size
  have HB := am hB
  clear hB
  have H : ((strings_ReplaceAll.f a1 (⟨#[0]⟩ : ByteArray) (⟨#[0, 255]⟩ : ByteArray)).bind fun t141 => (if l0.length + t141.size < 140737488355328 then ((some (l0 ++ bytesOf t141 : List Int)).bind fun y142 => (if y142.length < 140737488355328 then (some (y142 ++ [0])) else (none))) else (none))) = some r := h
  clear h
  replace H := Option.bind_eq_some_iff.mp H
  obtain ⟨t141, A30, H⟩ := H
  replace H : (if l0.length + t141.size < 140737488355328 then ((some (l0 ++ bytesOf t141 : List Int)).bind fun y142 => (if y142.length < 140737488355328 then (some (y142 ++ [0])) else (none))) else (none)) = some r := H
  have A3 := am A30
  clear A30
  by_cases c4 : l0.length + t141.size < 140737488355328
  · rw [if_pos c4] at H
    have LMc4 := am c4
    clear c4
    obtain ⟨y142, hy142⟩ : ∃ y_ : List Int, y_ = (l0 ++ bytesOf t141) := ⟨_, rfl⟩
    replace H : (if y142.length < 140737488355328 then (some (y142 ++ [0])) else (none)) = some r := by first | (rw [hy142]; with_reducible exact H) | (have H2_ := (Option.bind_some _ _).symm.trans H; rw [hy142]; with_reducible exact H2_) | (have H2_ := (Option.bind_some _ _).symm.trans H; with_reducible exact H2_) | with_reducible exact H | (rw [hy142]; exact H) | exact H
    have Ny142 := am hy142
    clear hy142
    by_cases c5 : y142.length < 140737488355328
    · rw [if_pos c5] at H
      have LMc5 := am c5
      clear c5
      obtain ⟨y145, hy145⟩ : ∃ y_ : List Int, y_ = (y142 ++ [0]) := ⟨_, rfl⟩
      replace H : (some y145) = some r := by first | (rw [hy145]; with_reducible exact H) | (have H2_ := (Option.bind_some _ _).symm.trans H; rw [hy145]; with_reducible exact H2_) | (have H2_ := (Option.bind_some _ _).symm.trans H; with_reducible exact H2_) | with_reducible exact H | (rw [hy145]; exact H) | exact H
      have Ny145 := am hy145
      clear hy145
      obtain rfl := Option.some.inj H
      go_enter Tryd.func103, Tryd.ntmps103
      go_wp2_with (first | ((with_reducible refine gate_callee (f := 141) rfl ?_); refine goesL_ (some 7) rfl rfl Tryd.func141 (by kernel_rfl) rfl #[.string a1, .string (⟨#[0]⟩ : ByteArray), .string (⟨#[0, 255]⟩ : ByteArray)] rfl ar ?_; (with_reducible refine (strings_ReplaceAll.calls a1 (⟨#[0]⟩ : ByteArray) (⟨#[0, 255]⟩ : ByteArray) t141 _ (Glob.below HG.out (bl HB)) A3.out).mono ?_); rintro e w6 ⟨rfl, hb⟩; refine ⟨_, rfl, ?_⟩; have n0_ := am (Kd.R_below (Kd.rr HO0.out) hb); have n1_ := am (Kept.below (S := (fun k_ => P0_ k_)) (by repeat (first | (with_reducible first | exact HK.out | apply Kept.alloc | apply Kept.drewN | apply Kept.drew) | exact HK.out)) hb); have n2_ := sb HB hb; clear HO0; clear HK; clear HB; have HO0 := n0_; have HK := n1_; have HB := n2_; clear n0_ n1_ n2_; (try clear hb); (try clear hb2 hk hi)) | (at_builtin; refine Kd.R_append_str (w0 := w0) w0.heap.size rfl (.tmp 5) _ 80 9 5 rfl Tryd.underlying80 Tryd.underlying9 info5 u9000_ l0 t141 (fun k_ => (P0_ k_ ∨ w.heap.size ≤ k_)) rfl rfl ?aF ?aO ?aB ?aS ?aL ?_; (case aB => exact (bl HB)); (case aF => exact (fun k_ hk => (.inr (Nat.le_trans (by first | exact HK.out.1 | exact (show Kept w _ (fun k_ => P0_ k_) from by repeat (first | (with_reducible first | exact HK.out | apply Kept.alloc | apply Kept.drewN | apply Kept.drew) | exact HK.out)).1) hk)))); (case aO => exact (Kd.rr HO0.out)); (case aS => exact (below_size (bl HB))); (case aL => have := LMc4.out; omega); intro v143 w7 ho hb hg hat; rw [← Ny142.out] at ho; have n0_ := am (hb); have n1_ := am (Kept.of_grown (S := (fun k_ => P0_ k_)) hg (by repeat (first | (with_reducible first | exact HK.out | apply Kept.alloc | apply Kept.drewN | apply Kept.drew) | exact HK.out)) (fun k_ e_ => (HO0.out.1 k_ e_))); have n2_ := am (ho); clear HB; clear HK; clear HO0; have HB := n0_; have HK := n1_; have HO144 := n2_; clear n0_ n1_ n2_; clear ho hb hg hat) | ((with_reducible refine gate_builtin (b := .append) (xs := #[.tmp 8, .tmp 9]) rfl ?_); at_builtin; refine Kd.R_append (Kd.int .u8) (w0 := w0) w0.heap.size rfl (.tmp 8) (.tmp 9) 80 5 (.int .u8 0) 1 rfl Tryd.underlying80 info5 rfl (by decide) (by omega) v143 y142 0 [.int .u8 0] (fun k_ => (P0_ k_ ∨ w.heap.size ≤ k_)) (fun _ => False) rfl rfl ?aP (fun _ hk => hk.elim) ?aF ?aO ?aB ?aS ?aL ?_; (case aP => exact rfl); (case aB => exact (bl HB)); (case aF => exact (fun k_ hk => (.inr (Nat.le_trans (by first | exact HK.out.1 | exact (show Kept w _ (fun k_ => P0_ k_) from by repeat (first | (with_reducible first | exact HK.out | apply Kept.alloc | apply Kept.drewN | apply Kept.drew) | exact HK.out)).1) hk)))); (case aO => exact (Kd.rr HO144.out)); (case aS => exact (below_size (bl HB))); (case aL => have := LMc5.out; omega); intro v146 w8 ho hb hg hat; rw [← Ny145.out] at ho; have n0_ := am (hb); have n1_ := am (Kept.of_grown (S := (fun k_ => P0_ k_)) hg (by repeat (first | (with_reducible first | exact HK.out | apply Kept.alloc | apply Kept.drewN | apply Kept.drew) | exact HK.out)) (fun k_ e_ => (HO144.out.1 k_ e_))); have n2_ := am (ho); clear HB; clear HK; clear HO144; have HB := n0_; have HK := n1_; have HO147 := n2_; clear n0_ n1_ n2_; clear ho hb hg hat))
      go_ret
      exact ⟨_, er, Kd.rr HO147.out, bl HB, by repeat (first | (with_reducible first | exact HK.out | apply Kept.alloc | apply Kept.drewN | apply Kept.drew) | exact HK.out)⟩
    · rw [if_neg c5] at H
      exact absurd H (by simp)
  · rw [if_neg c4] at H
    exact absurd H (by simp)
def code_put.f (k : Nat) (l0 : List Int) (a1_0 : Int) (a1_1 : Int) (a1_2 : Nat) (a1_3 : ByteArray) : Option (List Int) := if a1_0 = 1 then ((some (([2, (a1_1) % 256] : List Int) : List Int)).bind fun y149 => (if l0.length + y149.length < 140737488355328 then (some (l0 ++ y149)) else (none))) else (if a1_0 = 2 then (if l0.length < 140737488355328 then ((code_putInt.f k (l0 ++ [3]) a1_1).bind fun t158 => (some t158)) else (none)) else (if a1_0 = 3 then (if l0.length < 140737488355328 then ((value_Plain.f k a1_0 a1_1 a1_2 a1_3).bind fun bt164 => ((code_putFloat.f k (l0 ++ [4]) bt164.2.2.1).bind fun t168 => (some t168))) else (none)) else (if a1_0 = 4 then (if l0.length < 140737488355328 then ((code_putString.f (l0 ++ [5]) a1_3).bind fun t174 => (some t174)) else (none)) else (if a1_0 = 5 then (if l0.length < 140737488355328 then ((code_putString.f (l0 ++ [6]) a1_3).bind fun t180 => (some t180)) else (none)) else (if l0.length < 140737488355328 then (some (l0 ++ [1])) else (none))))))
def code_put.T7 : Bool × List (List Nat × List Nat) := (true, [([], []), ([], []), ([0, 1], [0, 1]), ([], []), ([3, 2], [3]), ([4], [4]), ([2, 5, 4], [2, 5]), ([6, 6, 0, 1, 2, 3, 4, 5, 6], [6])])
def code_put.B7 : List Nat := [0, 0, 3, 0, 15, 31, 63, 127]
theorem code_put.tab7 : rtab .any (opsOf Tryd.f68 7) = code_put.T7 := by kernel_rfl
theorem code_put.bits7 : waitsOk code_put.T7.2 code_put.B7 = true := by kernel_rfl
set_option maxHeartbeats 8000000 in
set_option maxRecDepth 100000 in
theorem code_put.calls (k : Nat) (P0_ : Nat → Prop) (u9000_ : Value) (l0 : List Int) (a1_0 : Int) (a1_1 : Int) (a1_2 : Nat) (a1_3 : ByteArray) (r : List Int) (w0 w : World) (hB : Below w0.heap.size w0 w) (ho0 : Kd.R (Kd.int .u8) 5 w w0.heap.size P0_ u9000_ l0) (hG : Glob w0) (h : code_put.f k l0 a1_0 a1_1 a1_2 a1_3 = some r) :
    Calls Tryd.prog 68 #[u9000_, .agg #[.int .i64 a1_0, .int .i64 a1_1, .float .f64 a1_2, .string a1_3]] w fun e w' => ∃ v0_ : Value, e = .returned (v0_) ∧ Kd.R (Kd.int .u8) 5 w' w0.heap.size (fun k_ => (P0_ k_ ∨ w.heap.size ≤ k_)) v0_ r ∧ Below w0.heap.size w0 w' ∧ Kept w w' (fun k_ => P0_ k_) := by
  have hu50 := Tryd.underlying50
  have HO0 := am (show Kd.R (Kd.int .u8) 5 w w0.heap.size (fun k_ => (P0_ k_ ∨ w.heap.size ≤ k_)) u9000_ l0 from Kd.R_mono ho0 (fun k_ hk => (.inl hk)))
  have HG := am hG
  clear hG
  have HK := am (Kept.refl w (fun k_ => P0_ k_))
  have HW0 := am hB.size
  have HB := am hB
  clear hB
  have H : (if a1_0 = 1 then ((some (([2, (a1_1) % 256] : List Int) : List Int)).bind fun y149 => (if l0.length + y149.length < 140737488355328 then (some (l0 ++ y149)) else (none))) else (if a1_0 = 2 then (if l0.length < 140737488355328 then ((code_putInt.f k (l0 ++ [3]) a1_1).bind fun t158 => (some t158)) else (none)) else (if a1_0 = 3 then (if l0.length < 140737488355328 then ((value_Plain.f k a1_0 a1_1 a1_2 a1_3).bind fun bt164 => ((code_putFloat.f k (l0 ++ [4]) bt164.2.2.1).bind fun t168 => (some t168))) else (none)) else (if a1_0 = 4 then (if l0.length < 140737488355328 then ((code_putString.f (l0 ++ [5]) a1_3).bind fun t174 => (some t174)) else (none)) else (if a1_0 = 5 then (if l0.length < 140737488355328 then ((code_putString.f (l0 ++ [6]) a1_3).bind fun t180 => (some t180)) else (none)) else (if l0.length < 140737488355328 then (some (l0 ++ [1])) else (none))))))) = some r := h
  clear h
  by_cases c3 : a1_0 = 1
  · rw [if_pos c3] at H
    have c3b0 : (a1_0 == 1) = true := beq_iff_eq.mpr c3
    have c3b1 : (a1_0 != 1) = false := bne_eq_false_iff_eq.mpr c3
    clear c3
    obtain ⟨y149, hy149⟩ : ∃ y_ : List Int, y_ = (([2, (a1_1) % 256] : List Int)) := ⟨_, rfl⟩
    replace H : (if l0.length + y149.length < 140737488355328 then (some (l0 ++ y149)) else (none)) = some r := by first | (rw [hy149]; with_reducible exact H) | (have H2_ := (Option.bind_some _ _).symm.trans H; rw [hy149]; with_reducible exact H2_) | (have H2_ := (Option.bind_some _ _).symm.trans H; with_reducible exact H2_) | with_reducible exact H | (rw [hy149]; exact H) | exact H
    have Ny149 := am hy149
    clear hy149
    by_cases c4 : l0.length + y149.length < 140737488355328
    · rw [if_pos c4] at H
      have LMc4 := am c4
      clear c4
      obtain ⟨y152, hy152⟩ : ∃ y_ : List Int, y_ = (l0 ++ y149) := ⟨_, rfl⟩
      replace H : (some y152) = some r := by first | (rw [hy152]; with_reducible exact H) | (have H2_ := (Option.bind_some _ _).symm.trans H; rw [hy152]; with_reducible exact H2_) | (have H2_ := (Option.bind_some _ _).symm.trans H; with_reducible exact H2_) | with_reducible exact H | (rw [hy152]; exact H) | exact H
      have Ny152 := am hy152
      clear hy152
      obtain rfl := Option.some.inj H
      go_enter Tryd.func68, Tryd.ntmps68
      go_wp2_with (first | ((with_reducible refine gate_dst (N := 3) rfl ?_); refine box_event rfl (N := 3) rfl (cs := #[.int .i64 a1_0, .int .i64 a1_1, .float .f64 a1_2, .string a1_3]) (t := 50) gs ?_; intro gb148 hg w5 hbox hb; have n0_ := am (Kd.R_below (Kd.rr HO0.out) hb); have n1_ := am (Kept.below (S := (fun k_ => P0_ k_)) (by repeat (first | (with_reducible first | exact HK.out | apply Kept.alloc | apply Kept.drewN | apply Kept.drew) | exact HK.out)) hb); have n2_ := sb HB hb; have n3_ := am (hbox); have n4_ := am ((by rw [hg]; exact (by first | exact HK.out.1 | exact (show Kept w _ (fun k_ => P0_ k_) from by repeat (first | (with_reducible first | exact HK.out | apply Kept.alloc | apply Kept.drewN | apply Kept.drew) | exact HK.out)).1) : w.heap.size ≤ gb148)); have n5_ := am ((by rw [hg]; exact (below_size (bl HB)) : w0.heap.size ≤ gb148)); clear HO0; clear HK; clear HB; have HO0 := n0_; have HK := n1_; have HB := n2_; have BK148 := n3_; have GW148 := n4_; have GE148 := n5_; clear n0_ n1_ n2_ n3_ n4_ n5_; clear hb hbox hg; obtain ⟨Z6_0, Z6_1, Z6_2, Z6_3, Y6_0, Y6_1, Y6_2, Y6_3⟩ := bq4 BK148) | ((with_reducible refine gate_dst (N := 13) rfl ?_); refine Kd.R_lit (Kd.int .u8) _ 5 ?hg (N := 13) ?hd (xs := ([2, (a1_1) % 256] : List Int)) (inner := [.int .u8 2, .int .u8 ((a1_1) % 256)]) (ok := fun _ => True) (okp := fun _ => True) ?hr ?hp (fun _ hk => hk) trivial (Below.refl _ _) (Nat.le_refl _) (by simp) ?_; (case hd => rfl); (case hg => rfl); (case hr => first | (go_simp; done) | (go_simp; rfl)); (case hp => exact (Reps.one (show Kd.M (Kd.int .u8) _ _ _ 2 [.int .u8 2] from rfl) (Reps.one (show Kd.M (Kd.int .u8) _ _ _ ((a1_1) % 256) [.int .u8 ((a1_1) % 256)] from rfl) (Reps.none _ _)))); intro v150 w7 ho8 hb hg_ hnew_; clear hg_ hnew_; (first | rw [← Ny149.out] at ho8 | (simp only [Int.reduceToNat] at ho8; rw [← Ny149.out] at ho8)); have n0_ := am (Kd.R_elder' (Kd.rr HO0.out) (Kd.R_base ho8) hb); have n1_ := am (Kd.R_lower (Kd.R_new' (Kd.R_newM (M := fun k_ => (P0_ k_ ∨ w.heap.size ≤ k_)) ho8 (by first | exact HK.out.1 | exact (show Kept w _ (fun k_ => P0_ k_) from by repeat (first | (with_reducible first | exact HK.out | apply Kept.alloc | apply Kept.drewN | apply Kept.drew | refine Kept.setCell ?_ (.inr GW148.out) _) | exact HK.out)).1) (fun k_ h_ => .inr h_)) (Kd.R_lt (Kd.rr HO0.out))) (below_size (bl HB))); have n2_ := kb BK148 hb; have n3_ := am (Kept.below (S := (fun k_ => P0_ k_)) (by repeat (first | (with_reducible first | exact HK.out | apply Kept.alloc | apply Kept.drewN | apply Kept.drew | refine Kept.setCell ?_ (.inr GW148.out) _) | exact HK.out)) hb); have n4_ := sb HB hb; clear HO0; clear BK148; clear HK; clear HB; have HO0 := n0_; have HO151 := n1_; have BK148 := n2_; have HK := n3_; have HB := n4_; clear n0_ n1_ n2_ n3_ n4_; clear hb ho8; obtain ⟨Ao10, co10, eo10⟩ := Kd.R_slice HO151.out; subst eo10) | ((with_reducible refine gate_builtin (b := .append) (xs := #[.tmp 9, .tmp 13]) rfl ?_); at_builtin; refine Kd.R_append_rows (Kd.int .u8) (w0 := w0) w0.heap.size rfl (.tmp 9) (.tmp 13) 80 5 (.int .u8 0) 1 rfl Tryd.underlying80 info5 rfl (by decide) (by omega) u9000_ l0 y149 _ _ _ (fun k_ => (P0_ k_ ∨ w.heap.size ≤ k_) ∧ some k_ ≠ (.slice Ao10 y149.length co10 : Value).ownBlock) (fun _ => False) rfl rfl ?aO ?aR (fun _ _ h => h) (fun _ h => h.elim) ?aF ?aB ?aS ?aL ?_; (case aR => repeat (first | exact (Kd.R_reads' HO151.out).2.2 | (with_reducible refine Kd.C_alloc ?_ _) | (with_reducible refine Kd.C_drewN ?_ _) | (with_reducible refine Kd.C_drew ?_))); (case aB => exact (bl HB)); (case aF => exact (fun k_ hk => ⟨(.inr (Nat.le_trans (by first | exact HK.out.1 | exact (show Kept w _ (fun k_ => P0_ k_) from by repeat (first | (with_reducible first | exact HK.out | apply Kept.alloc | apply Kept.drewN | apply Kept.drew | refine Kept.setCell ?_ (.inr GW148.out) _) | exact HK.out)).1) hk)), Kd.fresh' (Kd.R_lt (Kd.rr HO151.out)) k_ hk⟩)); (case aO => exact (Kd.rr HO0.out)); (case aS => exact (below_size (bl HB))); (case aL => have := LMc4.out; omega); intro v153 w9 ho hb hg hat; rw [← Ny152.out] at ho; have n0_ := am (blk_grown (g := gb148) (o := .cells #[.int .i64 a1_0, .int .i64 a1_1, .float .f64 a1_2, .string a1_3] 50 (0, 0)) (bk BK148) hg (Kd.R_ne HO0.out BK148.out (by decide))); have n1_ := am (Kd.R_after (ok := (fun k_ => (P0_ k_ ∨ w.heap.size ≤ k_))) (by (with_reducible repeat (first | apply Kd.R_alloc | apply Kd.R_drewN | apply Kd.R_drew)); exact Kd.R_mono HO151.out (fun _ hk => ⟨hk.1.1, hk.2⟩)) hg hat); have n2_ := am (hb); have n3_ := am (Kept.of_grown (S := (fun k_ => P0_ k_)) hg (by repeat (first | (with_reducible first | exact HK.out | apply Kept.alloc | apply Kept.drewN | apply Kept.drew | refine Kept.setCell ?_ (.inr GW148.out) _) | exact HK.out)) (fun k_ e_ => (HO0.out.1 k_ e_).1)); have n4_ := am (ho); clear BK148; clear HO151; clear HB; clear HK; clear HO0; have BK148 := n0_; have HO151 := n1_; have HB := n2_; have HK := n3_; have HO154 := n4_; clear n0_ n1_ n2_ n3_ n4_; clear ho hb hg hat))
      go_ret
      exact ⟨_, er, by (with_reducible repeat (first | apply Kd.R_alloc | apply Kd.R_drewN | apply Kd.R_drew)); exact Kd.R_mono HO154.out (fun _ hk => hk.1), bl HB, by repeat (first | (with_reducible first | exact HK.out | apply Kept.alloc | apply Kept.drewN | apply Kept.drew | refine Kept.setCell ?_ (.inr GW148.out) _) | exact HK.out)⟩
    · rw [if_neg c4] at H
      exact absurd H (by simp)
  · rw [if_neg c3] at H
    have c3b0 : (a1_0 == 1) = false := beq_eq_false_iff_ne.mpr c3
    have c3b1 : (a1_0 != 1) = true := bne_iff_ne.mpr c3
    by_cases c11 : a1_0 = 2
    · rw [if_pos c11] at H
      have c11b0 : (a1_0 == 2) = true := beq_iff_eq.mpr c11
      have c11b1 : (a1_0 != 2) = false := bne_eq_false_iff_eq.mpr c11
      clear c11
      by_cases c12 : l0.length < 140737488355328
      · rw [if_pos c12] at H
        have LMc12 := am c12
        clear c12
        obtain ⟨y155, hy155⟩ : ∃ y_ : List Int, y_ = (l0 ++ [3]) := ⟨_, rfl⟩
        replace H : ((code_putInt.f k y155 a1_1).bind fun t158 => (some t158)) = some r := by first | (rw [hy155]; with_reducible exact H) | (have H2_ := (Option.bind_some _ _).symm.trans H; rw [hy155]; with_reducible exact H2_) | (have H2_ := (Option.bind_some _ _).symm.trans H; with_reducible exact H2_) | with_reducible exact H | (rw [hy155]; exact H) | exact H
        have Ny155 := am hy155
        clear hy155
        replace H := Option.bind_eq_some_iff.mp H
        obtain ⟨t158, A130, H⟩ := H
        replace H : (some t158) = some r := H
        have A13 := am A130
        clear A130
        obtain rfl := Option.some.inj H
        go_enter Tryd.func68, Tryd.ntmps68
        try go_wp2_with (first | ((with_reducible refine gate_dst (N := 3) rfl ?_); refine box_event rfl (N := 3) rfl (cs := #[.int .i64 a1_0, .int .i64 a1_1, .float .f64 a1_2, .string a1_3]) (t := 50) gs ?_; intro gb148 hg w14 hbox hb; have n0_ := am (Kd.R_below (Kd.rr HO0.out) hb); have n1_ := am (Kept.below (S := (fun k_ => P0_ k_)) (by repeat (first | (with_reducible first | exact HK.out | apply Kept.alloc | apply Kept.drewN | apply Kept.drew) | exact HK.out)) hb); have n2_ := sb HB hb; have n3_ := am (hbox); have n4_ := am ((by rw [hg]; exact (by first | exact HK.out.1 | exact (show Kept w _ (fun k_ => P0_ k_) from by repeat (first | (with_reducible first | exact HK.out | apply Kept.alloc | apply Kept.drewN | apply Kept.drew) | exact HK.out)).1) : w.heap.size ≤ gb148)); have n5_ := am ((by rw [hg]; exact (below_size (bl HB)) : w0.heap.size ≤ gb148)); clear HO0; clear HK; clear HB; have HO0 := n0_; have HK := n1_; have HB := n2_; have BK148 := n3_; have GW148 := n4_; have GE148 := n5_; clear n0_ n1_ n2_ n3_ n4_ n5_; clear hb hbox hg; obtain ⟨Z15_0, Z15_1, Z15_2, Z15_3, Y15_0, Y15_1, Y15_2, Y15_3⟩ := bq4 BK148))
        have n0_ := am (Kd.R_drew HO0.out)
        have n1_ := am (blk_drew BK148.out)
        have n2_ := am (Kept.drew HK.out)
        have n3_ := am (below_drew1 HB.out)
        clear HO0
        clear BK148
        clear HK
        clear HB
        have HO0 := n0_
        have BK148 := n1_
        have HK := n2_
        have HB := n3_
        clear n0_ n1_ n2_ n3_
        refine start_ (n := 7) (S := fun w' => w'.cell? ⟨gb148, 0, none⟩ = some (.int .i64 a1_0) ∧ w'.cell? ⟨gb148, 1, none⟩ = some (.int .i64 a1_1) ∧ w'.cell? ⟨gb148, 2, none⟩ = some (.float .f64 a1_2) ∧ w'.cell? ⟨gb148, 3, none⟩ = some (.string a1_3)) (ds := []) (bb 0 7) (by kernel_rfl) rfl rfl ⟨(blk_cell BK148.out 0).trans rfl, (blk_cell BK148.out 1).trans rfl, (blk_cell BK148.out 2).trans rfl, (blk_cell BK148.out 3).trans rfl⟩ (fun hHeld => ?_)
        generalize w14.drew = w16 at HO0 BK148 HK HB hHeld ⊢
        refine pure_ (i := 0) (N := some 17) (v := ?_) (a' := ?_) (bb 1 7) rfl rfl (by kernel_rfl) (fun _ _ _ h => h) (Or.inl ⟨by rfl, ?_⟩) ?_ ?_
        rotate_left
        · intro w'
          go_simp
          with_reducible rfl
        rotate_left
        · simp only [Act.put, List.setIfInBounds_toArray, List.set_cons_zero, List.set_cons_succ, i64_w, i32_w]
          rfl
        refine pure_ (i := 3) (N := some 20) (v := ?_) (a' := ?_) (bs 7 9) rfl rfl (by kernel_rfl) (fun _ _ _ h => h) (Or.inl ⟨by rfl, ?_⟩) ?_ ?_
        rotate_left
        · intro w'
          go_simp
          with_reducible rfl
        rotate_left
        · simp only [Act.put, List.setIfInBounds_toArray, List.set_cons_zero, List.set_cons_succ, i64_w, i32_w]
          rfl
        refine take_ (i := 4) (N := some 21) (v := ?_) (a' := ?_) (bs 7 25) rfl rfl (by kernel_rfl) (fun _ _ _ h => h) (Or.inl ⟨by rfl, ?_⟩) hHeld ?_ ?_
        rotate_left
        · rintro w' ⟨s0, s1, s2, s3⟩
          go_simp
          with_reducible rfl
        rotate_left
        · simp only [Act.put, List.setIfInBounds_toArray, List.set_cons_zero, List.set_cons_succ, i64_w, i32_w]
          rfl
        refine one_ (i := 1) (N := some 18) (bs 7 27) rfl rfl (by kernel_rfl) (by decide) (fun K hK => ?_)
        refine value_ (w1 := ?_) (v := ?_) (by rfl) rfl ?_ ?_
        rotate_left 2
        · go_simp
          constructor
          · rfl
          · rfl
        refine hK.out _ _ ⟨(blk_cell (blk_alloc BK148.out _) 0).trans rfl, (blk_cell (blk_alloc BK148.out _) 1).trans rfl, (blk_cell (blk_alloc BK148.out _) 2).trans rfl, (blk_cell (blk_alloc BK148.out _) 3).trans rfl⟩ (fun hHeld => ?_)
        clear hK K
        refine norm_ (a' := ?_) ?_ ?_
        rotate_left
        · show Act.put _ (some 18) _ = _
          simp only [Act.put, List.setIfInBounds_toArray, List.set_cons_zero, List.set_cons_succ, i64_w, i32_w]
          rfl
        refine one_ (i := 2) (N := some 19) (bb 5 7) rfl rfl (by kernel_rfl) (by decide) (fun K hK => ?_)
        refine Kd.R_append_step (Kd.int .u8) (w0 := w0) w0.heap.size (by rfl) (.tmp 17) (.tmp 18) 80 5 (.int .u8 0) 1 rfl Tryd.underlying80 info5 rfl (by decide) (by omega) u9000_ l0 3 [.int .u8 3] (fun k_ => (P0_ k_ ∨ w.heap.size ≤ k_)) (fun _ => False) rfl rfl ?aP (fun _ hk => hk.elim) ?aF ?aO ?aB ?aS ?aL ?_
        (case aP => exact rfl)
        (case aB => exact (bl HB))
        (case aF => exact (fun k_ hk => (.inr (Nat.le_trans (by first | exact HK.out.1 | exact (show Kept w _ (fun k_ => P0_ k_) from by repeat (first | (with_reducible first | exact HK.out | apply Kept.alloc | apply Kept.drewN | apply Kept.drew | refine Kept.setCell ?_ (.inr GW148.out) _) | exact HK.out)).1) hk))))
        (case aO => exact (Kd.rr HO0.out))
        (case aS => exact (below_size (bl HB)))
        (case aL => have := LMc12.out; omega)
        intro v156 w17 ho hb hg hat
        rw [← Ny155.out] at ho
        have n0_ := am (blk_grown (g := gb148) (o := .cells #[.int .i64 a1_0, .int .i64 a1_1, .float .f64 a1_2, .string a1_3] 50 (0, 0)) (bk BK148) hg (Kd.R_ne HO0.out BK148.out (by decide)))
        have n1_ := am (hb)
        have n2_ := am (Kept.of_grown (S := (fun k_ => P0_ k_)) hg (by repeat (first | (with_reducible first | exact HK.out | apply Kept.alloc | apply Kept.drewN | apply Kept.drew | refine Kept.setCell ?_ (.inr GW148.out) _) | exact HK.out)) (fun k_ e_ => (HO0.out.1 k_ e_)))
        have n3_ := am (ho)
        clear BK148
        clear HB
        clear HK
        clear HO0
        have BK148 := n0_
        have HB := n1_
        have HK := n2_
        have HO157 := n3_
        clear n0_ n1_ n2_ n3_
        clear ho hb hg hat
        obtain ⟨Ao18, co18, eo18⟩ := Kd.R_slice HO157.out
        (first | subst eo18 | (injection eo18 with f1_ f2_ f3_; have f4_ := f1_.symm; have f5_ := f3_.symm; clear f1_ f2_ f3_; subst f4_; subst f5_))
        refine hK.out _ _ ⟨(blk_cell BK148.out 0).trans rfl, (blk_cell BK148.out 1).trans rfl, (blk_cell BK148.out 2).trans rfl, (blk_cell BK148.out 3).trans rfl⟩ (fun hHeld => ?_)
        clear hK K
        refine norm_ (a' := ?_) ?_ ?_
        rotate_left
        · show Act.put _ (some 19) _ = _
          simp only [Act.put, List.setIfInBounds_toArray, List.set_cons_zero, List.set_cons_succ, i64_w, i32_w]
          rfl
        refine one_ (i := 5) (N := some 22) (bb 6 7) rfl rfl (by kernel_rfl) (by decide) (fun K hK => ?_)
        refine goes_ Tryd.func100 (by kernel_rfl) rfl #[.slice Ao18 y155.length co18, .int .i64 a1_1] (by rfl) rfl rfl ar ?_
        with_reducible refine (code_putInt.calls k (fun k_ => some k_ = (.slice Ao18 y155.length co18 : Value).ownBlock) (.slice Ao18 y155.length co18) y155 a1_1 t158 w0 _ ?side1 ?side2 A13.out).mono ?_
        (case side1 => repeat (first | (with_reducible first | exact HB.out | apply below_alloc | apply pw_below_drewN | apply below_drew1 | refine below_set ?_ GE148.out) | exact HB.out))
        (case side2 => exact Kd.R_tight rfl HO157.out)
        rintro e w19 ⟨v159, rfl, ho0, hb, hkp⟩
        refine ⟨_, rfl, ?_⟩
        have n0_ := am (blk_kept (bk BK148) hkp (fun hs_ => (fun e_ => (Kd.R_ne HO157.out BK148.out (by decide)) e_) hs_))
        have n1_ := am (Kd.R_mono (ok' := fun k_ => (P0_ k_ ∨ w.heap.size ≤ k_)) ho0 (fun k_ hk_ => Or.elim hk_ (fun hs_ => (HO157.out.1 k_ (hs_).symm)) (fun hn_ => (.inr (Nat.le_trans (by first | exact HK.out.1 | exact (show Kept w _ (fun k_ => P0_ k_) from by repeat (first | (with_reducible first | exact HK.out | apply Kept.alloc | apply Kept.drewN | apply Kept.drew | refine Kept.setCell ?_ (.inr GW148.out) _) | exact HK.out)).1) hn_)))))
        have n2_ := am (Kept.then_ (S := (fun k_ => P0_ k_)) (by repeat (first | (with_reducible first | exact HK.out | apply Kept.alloc | apply Kept.drewN | apply Kept.drew | refine Kept.setCell ?_ (.inr GW148.out) _) | exact HK.out)) hkp (fun k_ hs_ => (fun e_ => (HO157.out.1 k_ e_.symm)) hs_))
        have n3_ := am (hb)
        clear BK148
        clear HK
        clear HB
        clear HO157
        have BK148 := n0_
        have HO160 := n1_
        have HK := n2_
        have HB := n3_
        clear n0_ n1_ n2_ n3_
        (try clear hb)
        (try clear hkp)
        (try clear ho0)
        refine hK.out _ _ ⟨(blk_cell BK148.out 0).trans rfl, (blk_cell BK148.out 1).trans rfl, (blk_cell BK148.out 2).trans rfl, (blk_cell BK148.out 3).trans rfl⟩ (fun hHeld => ?_)
        clear hK K
        refine norm_ (a' := ?_) ?_ ?_
        rotate_left
        · show Act.put _ (some 22) _ = _
          simp only [Act.put, List.setIfInBounds_toArray, List.set_cons_zero, List.set_cons_succ, i64_w, i32_w]
          rfl
        refine pure_ (i := 6) (N := some 4) (v := ?_) (a' := ?_) (bb 7 7) rfl rfl (by kernel_rfl) (fun _ _ _ h => h) (Or.inl ⟨by rfl, ?_⟩) ?_ ?_
        rotate_left
        · intro w'
          go_simp
          with_reducible rfl
        rotate_left
        · simp only [Act.put, List.setIfInBounds_toArray, List.set_cons_zero, List.set_cons_succ, i64_w, i32_w]
          rfl
        refine done_ (by kernel_rfl) ?_
        try go_wp2
        go_ret
        exact ⟨_, er, Kd.rr HO160.out, bl HB, by repeat (first | (with_reducible first | exact HK.out | apply Kept.alloc | apply Kept.drewN | apply Kept.drew | refine Kept.setCell ?_ (.inr GW148.out) _) | exact HK.out)⟩
      · rw [if_neg c12] at H
        exact absurd H (by simp)
    · rw [if_neg c11] at H
      have c11b0 : (a1_0 == 2) = false := beq_eq_false_iff_ne.mpr c11
      have c11b1 : (a1_0 != 2) = true := bne_iff_ne.mpr c11
      by_cases c20 : a1_0 = 3
      · rw [if_pos c20] at H
        have c20b0 : (a1_0 == 3) = true := beq_iff_eq.mpr c20
        have c20b1 : (a1_0 != 3) = false := bne_eq_false_iff_eq.mpr c20
        clear c20
        by_cases c21 : l0.length < 140737488355328
        · rw [if_pos c21] at H
          have LMc21 := am c21
          clear c21
          obtain ⟨y161, hy161⟩ : ∃ y_ : List Int, y_ = (l0 ++ [4]) := ⟨_, rfl⟩
          replace H : ((value_Plain.f k a1_0 a1_1 a1_2 a1_3).bind fun bt164 => ((code_putFloat.f k y161 bt164.2.2.1).bind fun t168 => (some t168))) = some r := by first | (rw [hy161]; with_reducible exact H) | (have H2_ := (Option.bind_some _ _).symm.trans H; rw [hy161]; with_reducible exact H2_) | (have H2_ := (Option.bind_some _ _).symm.trans H; with_reducible exact H2_) | with_reducible exact H | (rw [hy161]; exact H) | exact H
          have Ny161 := am hy161
          clear hy161
          replace H := Option.bind_eq_some_iff.mp H
          obtain ⟨⟨t164, t165, t166, t167⟩, A220, H⟩ := H
          replace H : ((code_putFloat.f k y161 t166).bind fun t168 => (some t168)) = some r := H
          have A22 := am A220
          clear A220
          replace H := Option.bind_eq_some_iff.mp H
          obtain ⟨t168, A230, H⟩ := H
          replace H : (some t168) = some r := H
          have A23 := am A230
          clear A230
          obtain rfl := Option.some.inj H
          go_enter Tryd.func68, Tryd.ntmps68
          try go_wp2_with (first | ((with_reducible refine gate_dst (N := 3) rfl ?_); refine box_event rfl (N := 3) rfl (cs := #[.int .i64 a1_0, .int .i64 a1_1, .float .f64 a1_2, .string a1_3]) (t := 50) gs ?_; intro gb148 hg w24 hbox hb; have n0_ := am (Kd.R_below (Kd.rr HO0.out) hb); have n1_ := am (Kept.below (S := (fun k_ => P0_ k_)) (by repeat (first | (with_reducible first | exact HK.out | apply Kept.alloc | apply Kept.drewN | apply Kept.drew) | exact HK.out)) hb); have n2_ := sb HB hb; have n3_ := am (hbox); have n4_ := am ((by rw [hg]; exact (by first | exact HK.out.1 | exact (show Kept w _ (fun k_ => P0_ k_) from by repeat (first | (with_reducible first | exact HK.out | apply Kept.alloc | apply Kept.drewN | apply Kept.drew) | exact HK.out)).1) : w.heap.size ≤ gb148)); have n5_ := am ((by rw [hg]; exact (below_size (bl HB)) : w0.heap.size ≤ gb148)); clear HO0; clear HK; clear HB; have HO0 := n0_; have HK := n1_; have HB := n2_; have BK148 := n3_; have GW148 := n4_; have GE148 := n5_; clear n0_ n1_ n2_ n3_ n4_ n5_; clear hb hbox hg; obtain ⟨Z25_0, Z25_1, Z25_2, Z25_3, Y25_0, Y25_1, Y25_2, Y25_3⟩ := bq4 BK148))
          have n0_ := am (Kd.R_drew HO0.out)
          have n1_ := am (blk_drew BK148.out)
          have n2_ := am (Kept.drew HK.out)
          have n3_ := am (below_drew1 HB.out)
          clear HO0
          clear BK148
          clear HK
          clear HB
          have HO0 := n0_
          have BK148 := n1_
          have HK := n2_
          have HB := n3_
          clear n0_ n1_ n2_ n3_
          refine start_ (n := 8) (S := fun w' => w'.cell? ⟨gb148, 0, none⟩ = some (.int .i64 a1_0) ∧ w'.cell? ⟨gb148, 1, none⟩ = some (.int .i64 a1_1) ∧ w'.cell? ⟨gb148, 2, none⟩ = some (.float .f64 a1_2) ∧ w'.cell? ⟨gb148, 3, none⟩ = some (.string a1_3)) (ds := []) (bb 0 8) (by kernel_rfl) rfl rfl ⟨(blk_cell BK148.out 0).trans rfl, (blk_cell BK148.out 1).trans rfl, (blk_cell BK148.out 2).trans rfl, (blk_cell BK148.out 3).trans rfl⟩ (fun hHeld => ?_); refine with_tabW code_put.tab7 code_put.bits7 (fun HT_ HW_ => ?_)
          generalize w24.drew = w26 at HO0 BK148 HK HB hHeld ⊢
          refine pu HT_ 0 (some 25) (bb 1 8) ?_
          refine tk HT_ HW_ hHeld 3 (some 28) (bs 8 9) ?_
          refine one_ (i := 1) (N := some 26) (bs 8 11) rfl rfl (one_of HT_.out (by kernel_rfl)) (by decide) (fun K hK => ?_)
          refine value_ (w1 := ?_) (v := ?_) (by rfl) rfl ?_ ?_
          rotate_left 2
          · go_simp
            constructor
            · rfl
            · rfl
          refine hK.out _ _ ⟨(blk_cell (blk_alloc BK148.out _) 0).trans rfl, (blk_cell (blk_alloc BK148.out _) 1).trans rfl, (blk_cell (blk_alloc BK148.out _) 2).trans rfl, (blk_cell (blk_alloc BK148.out _) 3).trans rfl⟩ (fun hHeld => ?_)
          clear hK K
          refine norm_ (a' := ?_) ?_ ?_
          rotate_left
          · show Act.put _ (some 26) _ = _
            simp only [Act.put, List.setIfInBounds_toArray, List.set_cons_zero, List.set_cons_succ, i64_w, i32_w]
            rfl
          refine one_ (i := 2) (N := some 27) (bb 4 8) rfl rfl (one_of HT_.out (by kernel_rfl)) (by decide) (fun K hK => ?_)
          refine Kd.R_append_step (Kd.int .u8) (w0 := w0) w0.heap.size (by rfl) (.tmp 25) (.tmp 26) 80 5 (.int .u8 0) 1 rfl Tryd.underlying80 info5 rfl (by decide) (by omega) u9000_ l0 4 [.int .u8 4] (fun k_ => (P0_ k_ ∨ w.heap.size ≤ k_)) (fun _ => False) rfl rfl ?aP (fun _ hk => hk.elim) ?aF ?aO ?aB ?aS ?aL ?_
          (case aP => exact rfl)
          (case aB => exact (bl HB))
          (case aF => exact (fun k_ hk => (.inr (Nat.le_trans (by first | exact HK.out.1 | exact (show Kept w _ (fun k_ => P0_ k_) from by repeat (first | (with_reducible first | exact HK.out | apply Kept.alloc | apply Kept.drewN | apply Kept.drew | refine Kept.setCell ?_ (.inr GW148.out) _) | exact HK.out)).1) hk))))
          (case aO => exact (Kd.rr HO0.out))
          (case aS => exact (below_size (bl HB)))
          (case aL => have := LMc21.out; omega)
          intro v162 w27 ho hb hg hat
          rw [← Ny161.out] at ho
          have n0_ := am (blk_grown (g := gb148) (o := .cells #[.int .i64 a1_0, .int .i64 a1_1, .float .f64 a1_2, .string a1_3] 50 (0, 0)) (bk BK148) hg (Kd.R_ne HO0.out BK148.out (by decide)))
          have n1_ := am (hb)
          have n2_ := am (Kept.of_grown (S := (fun k_ => P0_ k_)) hg (by repeat (first | (with_reducible first | exact HK.out | apply Kept.alloc | apply Kept.drewN | apply Kept.drew | refine Kept.setCell ?_ (.inr GW148.out) _) | exact HK.out)) (fun k_ e_ => (HO0.out.1 k_ e_)))
          have n3_ := am (ho)
          clear BK148
          clear HB
          clear HK
          clear HO0
          have BK148 := n0_
          have HB := n1_
          have HK := n2_
          have HO163 := n3_
          clear n0_ n1_ n2_ n3_
          clear ho hb hg hat
          refine hK.out _ _ ⟨(blk_cell BK148.out 0).trans rfl, (blk_cell BK148.out 1).trans rfl, (blk_cell BK148.out 2).trans rfl, (blk_cell BK148.out 3).trans rfl⟩ (fun hHeld => ?_)
          clear hK K
          refine norm_ (a' := ?_) ?_ ?_
          rotate_left
          · show Act.put _ (some 27) _ = _
            simp only [Act.put, List.setIfInBounds_toArray, List.set_cons_zero, List.set_cons_succ, i64_w, i32_w]
            rfl
          refine one_ (i := 4) (N := some 29) (bb 5 8) rfl rfl (one_of HT_.out (by kernel_rfl)) (by decide) (fun K hK => ?_)
          refine goes_ Tryd.func102 (by kernel_rfl) rfl #[.agg #[.int .i64 a1_0, .int .i64 a1_1, .float .f64 a1_2, .string a1_3]] (by rfl) rfl rfl ar ?_
          with_reducible refine (value_Plain.calls k a1_0 a1_1 a1_2 a1_3 t164 t165 t166 t167 _ A22.out).mono ?_
          rintro e w28 ⟨rfl, hb⟩
          refine ⟨_, rfl, ?_⟩
          have n0_ := am (Kd.R_below (Kd.rr HO163.out) hb)
          have n1_ := kb BK148 hb
          have n2_ := am (Kept.below (S := (fun k_ => P0_ k_)) (by repeat (first | (with_reducible first | exact HK.out | apply Kept.alloc | apply Kept.drewN | apply Kept.drew | refine Kept.setCell ?_ (.inr GW148.out) _) | exact HK.out)) hb)
          have n3_ := sb HB hb
          clear HO163
          clear BK148
          clear HK
          clear HB
          have HO163 := n0_
          have BK148 := n1_
          have HK := n2_
          have HB := n3_
          clear n0_ n1_ n2_ n3_
          (try clear hb)
          (try clear hb2)
          (try clear hk)
          (try clear hi)
          obtain ⟨Ao29, co29, eo29⟩ := Kd.R_slice HO163.out
          (first | subst eo29 | (injection eo29 with f1_ f2_ f3_; have f4_ := f1_.symm; have f5_ := f3_.symm; clear f1_ f2_ f3_; subst f4_; subst f5_))
          refine hK.out _ _ ⟨(blk_cell BK148.out 0).trans rfl, (blk_cell BK148.out 1).trans rfl, (blk_cell BK148.out 2).trans rfl, (blk_cell BK148.out 3).trans rfl⟩ (fun hHeld => ?_)
          clear hK K
          refine norm_ (a' := ?_) ?_ ?_
          rotate_left
          · show Act.put _ (some 29) _ = _
            simp only [Act.put, List.setIfInBounds_toArray, List.set_cons_zero, List.set_cons_succ, i64_w, i32_w]
            rfl
          refine pu HT_ 5 (some 30) (bb 6 8) ?_
          refine one_ (i := 6) (N := some 31) (bb 7 8) rfl rfl (one_of HT_.out (by kernel_rfl)) (by decide) (fun K hK => ?_)
          refine goes_ Tryd.func101 (by kernel_rfl) rfl #[.slice Ao29 y161.length co29, .float .f64 t166] (by rfl) rfl rfl ar ?_
          with_reducible refine (code_putFloat.calls k (fun k_ => some k_ = (.slice Ao29 y161.length co29 : Value).ownBlock) (.slice Ao29 y161.length co29) y161 t166 t168 w0 _ ?side1 ?side2 A23.out).mono ?_
          (case side1 => repeat (first | (with_reducible first | exact HB.out | apply below_alloc | apply pw_below_drewN | apply below_drew1 | refine below_set ?_ GE148.out) | exact HB.out))
          (case side2 => exact Kd.R_tight rfl HO163.out)
          rintro e w30 ⟨v169, rfl, ho0, hb, hkp⟩
          refine ⟨_, rfl, ?_⟩
          have n0_ := am (blk_kept (bk BK148) hkp (fun hs_ => (fun e_ => (Kd.R_ne HO163.out BK148.out (by decide)) e_) hs_))
          have n1_ := am (Kd.R_mono (ok' := fun k_ => (P0_ k_ ∨ w.heap.size ≤ k_)) ho0 (fun k_ hk_ => Or.elim hk_ (fun hs_ => (HO163.out.1 k_ (hs_).symm)) (fun hn_ => (.inr (Nat.le_trans (by first | exact HK.out.1 | exact (show Kept w _ (fun k_ => P0_ k_) from by repeat (first | (with_reducible first | exact HK.out | apply Kept.alloc | apply Kept.drewN | apply Kept.drew | refine Kept.setCell ?_ (.inr GW148.out) _) | exact HK.out)).1) hn_)))))
          have n2_ := am (Kept.then_ (S := (fun k_ => P0_ k_)) (by repeat (first | (with_reducible first | exact HK.out | apply Kept.alloc | apply Kept.drewN | apply Kept.drew | refine Kept.setCell ?_ (.inr GW148.out) _) | exact HK.out)) hkp (fun k_ hs_ => (fun e_ => (HO163.out.1 k_ e_.symm)) hs_))
          have n3_ := am (hb)
          clear BK148
          clear HK
          clear HB
          clear HO163
          have BK148 := n0_
          have HO170 := n1_
          have HK := n2_
          have HB := n3_
          clear n0_ n1_ n2_ n3_
          (try clear hb)
          (try clear hkp)
          (try clear ho0)
          refine hK.out _ _ ⟨(blk_cell BK148.out 0).trans rfl, (blk_cell BK148.out 1).trans rfl, (blk_cell BK148.out 2).trans rfl, (blk_cell BK148.out 3).trans rfl⟩ (fun hHeld => ?_)
          clear hK K
          refine norm_ (a' := ?_) ?_ ?_
          rotate_left
          · show Act.put _ (some 31) _ = _
            simp only [Act.put, List.setIfInBounds_toArray, List.set_cons_zero, List.set_cons_succ, i64_w, i32_w]
            rfl
          refine pu HT_ 7 (some 4) (bb 8 8) ?_
          refine done_ (done_of HT_.out (by kernel_rfl)) ?_
          try go_wp2
          go_ret
          exact ⟨_, er, Kd.rr HO170.out, bl HB, by repeat (first | (with_reducible first | exact HK.out | apply Kept.alloc | apply Kept.drewN | apply Kept.drew | refine Kept.setCell ?_ (.inr GW148.out) _) | exact HK.out)⟩
        · rw [if_neg c21] at H
          exact absurd H (by simp)
      · rw [if_neg c20] at H
        have c20b0 : (a1_0 == 3) = false := beq_eq_false_iff_ne.mpr c20
        have c20b1 : (a1_0 != 3) = true := bne_iff_ne.mpr c20
        by_cases c31 : a1_0 = 4
        · rw [if_pos c31] at H
          have c31b0 : (a1_0 == 4) = true := beq_iff_eq.mpr c31
          have c31b1 : (a1_0 != 4) = false := bne_eq_false_iff_eq.mpr c31
          clear c31
          by_cases c32 : l0.length < 140737488355328
          · rw [if_pos c32] at H
            have LMc32 := am c32
            clear c32
            obtain ⟨y171, hy171⟩ : ∃ y_ : List Int, y_ = (l0 ++ [5]) := ⟨_, rfl⟩
            replace H : ((code_putString.f y171 a1_3).bind fun t174 => (some t174)) = some r := by first | (rw [hy171]; with_reducible exact H) | (have H2_ := (Option.bind_some _ _).symm.trans H; rw [hy171]; with_reducible exact H2_) | (have H2_ := (Option.bind_some _ _).symm.trans H; with_reducible exact H2_) | with_reducible exact H | (rw [hy171]; exact H) | exact H
            have Ny171 := am hy171
            clear hy171
            replace H := Option.bind_eq_some_iff.mp H
            obtain ⟨t174, A330, H⟩ := H
            replace H : (some t174) = some r := H
            have A33 := am A330
            clear A330
            obtain rfl := Option.some.inj H
            go_enter Tryd.func68, Tryd.ntmps68
            try go_wp2_with (first | ((with_reducible refine gate_dst (N := 3) rfl ?_); refine box_event rfl (N := 3) rfl (cs := #[.int .i64 a1_0, .int .i64 a1_1, .float .f64 a1_2, .string a1_3]) (t := 50) gs ?_; intro gb148 hg w34 hbox hb; have n0_ := am (Kd.R_below (Kd.rr HO0.out) hb); have n1_ := am (Kept.below (S := (fun k_ => P0_ k_)) (by repeat (first | (with_reducible first | exact HK.out | apply Kept.alloc | apply Kept.drewN | apply Kept.drew) | exact HK.out)) hb); have n2_ := sb HB hb; have n3_ := am (hbox); have n4_ := am ((by rw [hg]; exact (by first | exact HK.out.1 | exact (show Kept w _ (fun k_ => P0_ k_) from by repeat (first | (with_reducible first | exact HK.out | apply Kept.alloc | apply Kept.drewN | apply Kept.drew) | exact HK.out)).1) : w.heap.size ≤ gb148)); have n5_ := am ((by rw [hg]; exact (below_size (bl HB)) : w0.heap.size ≤ gb148)); clear HO0; clear HK; clear HB; have HO0 := n0_; have HK := n1_; have HB := n2_; have BK148 := n3_; have GW148 := n4_; have GE148 := n5_; clear n0_ n1_ n2_ n3_ n4_ n5_; clear hb hbox hg; obtain ⟨Z35_0, Z35_1, Z35_2, Z35_3, Y35_0, Y35_1, Y35_2, Y35_3⟩ := bq4 BK148))
            have n0_ := am (Kd.R_drew HO0.out)
            have n1_ := am (blk_drew BK148.out)
            have n2_ := am (Kept.drew HK.out)
            have n3_ := am (below_drew1 HB.out)
            clear HO0
            clear BK148
            clear HK
            clear HB
            have HO0 := n0_
            have BK148 := n1_
            have HK := n2_
            have HB := n3_
            clear n0_ n1_ n2_ n3_
            refine start_ (n := 7) (S := fun w' => w'.cell? ⟨gb148, 0, none⟩ = some (.int .i64 a1_0) ∧ w'.cell? ⟨gb148, 1, none⟩ = some (.int .i64 a1_1) ∧ w'.cell? ⟨gb148, 2, none⟩ = some (.float .f64 a1_2) ∧ w'.cell? ⟨gb148, 3, none⟩ = some (.string a1_3)) (ds := []) (bb 0 7) (by kernel_rfl) rfl rfl ⟨(blk_cell BK148.out 0).trans rfl, (blk_cell BK148.out 1).trans rfl, (blk_cell BK148.out 2).trans rfl, (blk_cell BK148.out 3).trans rfl⟩ (fun hHeld => ?_)
            generalize w34.drew = w36 at HO0 BK148 HK HB hHeld ⊢
            refine pure_ (i := 0) (N := some 34) (v := ?_) (a' := ?_) (bb 1 7) rfl rfl (by kernel_rfl) (fun _ _ _ h => h) (Or.inl ⟨by rfl, ?_⟩) ?_ ?_
            rotate_left
            · intro w'
              go_simp
              with_reducible rfl
            rotate_left
            · simp only [Act.put, List.setIfInBounds_toArray, List.set_cons_zero, List.set_cons_succ, i64_w, i32_w]
              rfl
            refine pure_ (i := 3) (N := some 37) (v := ?_) (a' := ?_) (bs 7 9) rfl rfl (by kernel_rfl) (fun _ _ _ h => h) (Or.inl ⟨by rfl, ?_⟩) ?_ ?_
            rotate_left
            · intro w'
              go_simp
              with_reducible rfl
            rotate_left
            · simp only [Act.put, List.setIfInBounds_toArray, List.set_cons_zero, List.set_cons_succ, i64_w, i32_w]
              rfl
            refine take_ (i := 4) (N := some 38) (v := ?_) (a' := ?_) (bs 7 25) rfl rfl (by kernel_rfl) (fun _ _ _ h => h) (Or.inl ⟨by rfl, ?_⟩) hHeld ?_ ?_
            rotate_left
            · rintro w' ⟨s0, s1, s2, s3⟩
              go_simp
              with_reducible rfl
            rotate_left
            · simp only [Act.put, List.setIfInBounds_toArray, List.set_cons_zero, List.set_cons_succ, i64_w, i32_w]
              rfl
            refine one_ (i := 1) (N := some 35) (bs 7 27) rfl rfl (by kernel_rfl) (by decide) (fun K hK => ?_)
            refine value_ (w1 := ?_) (v := ?_) (by rfl) rfl ?_ ?_
            rotate_left 2
            · go_simp
              constructor
              · rfl
              · rfl
            refine hK.out _ _ ⟨(blk_cell (blk_alloc BK148.out _) 0).trans rfl, (blk_cell (blk_alloc BK148.out _) 1).trans rfl, (blk_cell (blk_alloc BK148.out _) 2).trans rfl, (blk_cell (blk_alloc BK148.out _) 3).trans rfl⟩ (fun hHeld => ?_)
            clear hK K
            refine norm_ (a' := ?_) ?_ ?_
            rotate_left
            · show Act.put _ (some 35) _ = _
              simp only [Act.put, List.setIfInBounds_toArray, List.set_cons_zero, List.set_cons_succ, i64_w, i32_w]
              rfl
            refine one_ (i := 2) (N := some 36) (bb 5 7) rfl rfl (by kernel_rfl) (by decide) (fun K hK => ?_)
            refine Kd.R_append_step (Kd.int .u8) (w0 := w0) w0.heap.size (by rfl) (.tmp 34) (.tmp 35) 80 5 (.int .u8 0) 1 rfl Tryd.underlying80 info5 rfl (by decide) (by omega) u9000_ l0 5 [.int .u8 5] (fun k_ => (P0_ k_ ∨ w.heap.size ≤ k_)) (fun _ => False) rfl rfl ?aP (fun _ hk => hk.elim) ?aF ?aO ?aB ?aS ?aL ?_
            (case aP => exact rfl)
            (case aB => exact (bl HB))
            (case aF => exact (fun k_ hk => (.inr (Nat.le_trans (by first | exact HK.out.1 | exact (show Kept w _ (fun k_ => P0_ k_) from by repeat (first | (with_reducible first | exact HK.out | apply Kept.alloc | apply Kept.drewN | apply Kept.drew | refine Kept.setCell ?_ (.inr GW148.out) _) | exact HK.out)).1) hk))))
            (case aO => exact (Kd.rr HO0.out))
            (case aS => exact (below_size (bl HB)))
            (case aL => have := LMc32.out; omega)
            intro v172 w37 ho hb hg hat
            rw [← Ny171.out] at ho
            have n0_ := am (blk_grown (g := gb148) (o := .cells #[.int .i64 a1_0, .int .i64 a1_1, .float .f64 a1_2, .string a1_3] 50 (0, 0)) (bk BK148) hg (Kd.R_ne HO0.out BK148.out (by decide)))
            have n1_ := am (hb)
            have n2_ := am (Kept.of_grown (S := (fun k_ => P0_ k_)) hg (by repeat (first | (with_reducible first | exact HK.out | apply Kept.alloc | apply Kept.drewN | apply Kept.drew | refine Kept.setCell ?_ (.inr GW148.out) _) | exact HK.out)) (fun k_ e_ => (HO0.out.1 k_ e_)))
            have n3_ := am (ho)
            clear BK148
            clear HB
            clear HK
            clear HO0
            have BK148 := n0_
            have HB := n1_
            have HK := n2_
            have HO173 := n3_
            clear n0_ n1_ n2_ n3_
            clear ho hb hg hat
            obtain ⟨Ao38, co38, eo38⟩ := Kd.R_slice HO173.out
            (first | subst eo38 | (injection eo38 with f1_ f2_ f3_; have f4_ := f1_.symm; have f5_ := f3_.symm; clear f1_ f2_ f3_; subst f4_; subst f5_))
            refine hK.out _ _ ⟨(blk_cell BK148.out 0).trans rfl, (blk_cell BK148.out 1).trans rfl, (blk_cell BK148.out 2).trans rfl, (blk_cell BK148.out 3).trans rfl⟩ (fun hHeld => ?_)
            clear hK K
            refine norm_ (a' := ?_) ?_ ?_
            rotate_left
            · show Act.put _ (some 36) _ = _
              simp only [Act.put, List.setIfInBounds_toArray, List.set_cons_zero, List.set_cons_succ, i64_w, i32_w]
              rfl
            refine one_ (i := 5) (N := some 39) (bb 6 7) rfl rfl (by kernel_rfl) (by decide) (fun K hK => ?_)
            refine goes_ Tryd.func103 (by kernel_rfl) rfl #[.slice Ao38 y171.length co38, .string a1_3] (by rfl) rfl rfl ar ?_
            with_reducible refine (code_putString.calls (fun k_ => some k_ = (.slice Ao38 y171.length co38 : Value).ownBlock) (.slice Ao38 y171.length co38) y171 a1_3 t174 w0 _ ?side1 ?side2 ?side3 A33.out).mono ?_
            (case side1 => repeat (first | (with_reducible first | exact HB.out | apply below_alloc | apply pw_below_drewN | apply below_drew1 | refine below_set ?_ GE148.out) | exact HB.out))
            (case side2 => exact Kd.R_tight rfl HO173.out)
            (case side3 => exact HG.out)
            rintro e w39 ⟨v175, rfl, ho0, hb, hkp⟩
            refine ⟨_, rfl, ?_⟩
            have n0_ := am (blk_kept (bk BK148) hkp (fun hs_ => (fun e_ => (Kd.R_ne HO173.out BK148.out (by decide)) e_) hs_))
            have n1_ := am (Kd.R_mono (ok' := fun k_ => (P0_ k_ ∨ w.heap.size ≤ k_)) ho0 (fun k_ hk_ => Or.elim hk_ (fun hs_ => (HO173.out.1 k_ (hs_).symm)) (fun hn_ => (.inr (Nat.le_trans (by first | exact HK.out.1 | exact (show Kept w _ (fun k_ => P0_ k_) from by repeat (first | (with_reducible first | exact HK.out | apply Kept.alloc | apply Kept.drewN | apply Kept.drew | refine Kept.setCell ?_ (.inr GW148.out) _) | exact HK.out)).1) hn_)))))
            have n2_ := am (Kept.then_ (S := (fun k_ => P0_ k_)) (by repeat (first | (with_reducible first | exact HK.out | apply Kept.alloc | apply Kept.drewN | apply Kept.drew | refine Kept.setCell ?_ (.inr GW148.out) _) | exact HK.out)) hkp (fun k_ hs_ => (fun e_ => (HO173.out.1 k_ e_.symm)) hs_))
            have n3_ := am (hb)
            clear BK148
            clear HK
            clear HB
            clear HO173
            have BK148 := n0_
            have HO176 := n1_
            have HK := n2_
            have HB := n3_
            clear n0_ n1_ n2_ n3_
            (try clear hb)
            (try clear hkp)
            (try clear ho0)
            refine hK.out _ _ ⟨(blk_cell BK148.out 0).trans rfl, (blk_cell BK148.out 1).trans rfl, (blk_cell BK148.out 2).trans rfl, (blk_cell BK148.out 3).trans rfl⟩ (fun hHeld => ?_)
            clear hK K
            refine norm_ (a' := ?_) ?_ ?_
            rotate_left
            · show Act.put _ (some 39) _ = _
              simp only [Act.put, List.setIfInBounds_toArray, List.set_cons_zero, List.set_cons_succ, i64_w, i32_w]
              rfl
            refine pure_ (i := 6) (N := some 4) (v := ?_) (a' := ?_) (bb 7 7) rfl rfl (by kernel_rfl) (fun _ _ _ h => h) (Or.inl ⟨by rfl, ?_⟩) ?_ ?_
            rotate_left
            · intro w'
              go_simp
              with_reducible rfl
            rotate_left
            · simp only [Act.put, List.setIfInBounds_toArray, List.set_cons_zero, List.set_cons_succ, i64_w, i32_w]
              rfl
            refine done_ (by kernel_rfl) ?_
            try go_wp2
            go_ret
            exact ⟨_, er, Kd.rr HO176.out, bl HB, by repeat (first | (with_reducible first | exact HK.out | apply Kept.alloc | apply Kept.drewN | apply Kept.drew | refine Kept.setCell ?_ (.inr GW148.out) _) | exact HK.out)⟩
          · rw [if_neg c32] at H
            exact absurd H (by simp)
        · rw [if_neg c31] at H
          have c31b0 : (a1_0 == 4) = false := beq_eq_false_iff_ne.mpr c31
          have c31b1 : (a1_0 != 4) = true := bne_iff_ne.mpr c31
          by_cases c40 : a1_0 = 5
          · rw [if_pos c40] at H
            have c40b0 : (a1_0 == 5) = true := beq_iff_eq.mpr c40
            have c40b1 : (a1_0 != 5) = false := bne_eq_false_iff_eq.mpr c40
            clear c40
            by_cases c41 : l0.length < 140737488355328
            · rw [if_pos c41] at H
              have LMc41 := am c41
              clear c41
              obtain ⟨y177, hy177⟩ : ∃ y_ : List Int, y_ = (l0 ++ [6]) := ⟨_, rfl⟩
              replace H : ((code_putString.f y177 a1_3).bind fun t180 => (some t180)) = some r := by first | (rw [hy177]; with_reducible exact H) | (have H2_ := (Option.bind_some _ _).symm.trans H; rw [hy177]; with_reducible exact H2_) | (have H2_ := (Option.bind_some _ _).symm.trans H; with_reducible exact H2_) | with_reducible exact H | (rw [hy177]; exact H) | exact H
              have Ny177 := am hy177
              clear hy177
              replace H := Option.bind_eq_some_iff.mp H
              obtain ⟨t180, A420, H⟩ := H
              replace H : (some t180) = some r := H
              have A42 := am A420
              clear A420
              obtain rfl := Option.some.inj H
              go_enter Tryd.func68, Tryd.ntmps68
              try go_wp2_with (first | ((with_reducible refine gate_dst (N := 3) rfl ?_); refine box_event rfl (N := 3) rfl (cs := #[.int .i64 a1_0, .int .i64 a1_1, .float .f64 a1_2, .string a1_3]) (t := 50) gs ?_; intro gb148 hg w43 hbox hb; have n0_ := am (Kd.R_below (Kd.rr HO0.out) hb); have n1_ := am (Kept.below (S := (fun k_ => P0_ k_)) (by repeat (first | (with_reducible first | exact HK.out | apply Kept.alloc | apply Kept.drewN | apply Kept.drew) | exact HK.out)) hb); have n2_ := sb HB hb; have n3_ := am (hbox); have n4_ := am ((by rw [hg]; exact (by first | exact HK.out.1 | exact (show Kept w _ (fun k_ => P0_ k_) from by repeat (first | (with_reducible first | exact HK.out | apply Kept.alloc | apply Kept.drewN | apply Kept.drew) | exact HK.out)).1) : w.heap.size ≤ gb148)); have n5_ := am ((by rw [hg]; exact (below_size (bl HB)) : w0.heap.size ≤ gb148)); clear HO0; clear HK; clear HB; have HO0 := n0_; have HK := n1_; have HB := n2_; have BK148 := n3_; have GW148 := n4_; have GE148 := n5_; clear n0_ n1_ n2_ n3_ n4_ n5_; clear hb hbox hg; obtain ⟨Z44_0, Z44_1, Z44_2, Z44_3, Y44_0, Y44_1, Y44_2, Y44_3⟩ := bq4 BK148))
              have n0_ := am (Kd.R_drew HO0.out)
              have n1_ := am (blk_drew BK148.out)
              have n2_ := am (Kept.drew HK.out)
              have n3_ := am (below_drew1 HB.out)
              clear HO0
              clear BK148
              clear HK
              clear HB
              have HO0 := n0_
              have BK148 := n1_
              have HK := n2_
              have HB := n3_
              clear n0_ n1_ n2_ n3_
              refine start_ (n := 7) (S := fun w' => w'.cell? ⟨gb148, 0, none⟩ = some (.int .i64 a1_0) ∧ w'.cell? ⟨gb148, 1, none⟩ = some (.int .i64 a1_1) ∧ w'.cell? ⟨gb148, 2, none⟩ = some (.float .f64 a1_2) ∧ w'.cell? ⟨gb148, 3, none⟩ = some (.string a1_3)) (ds := []) (bb 0 7) (by kernel_rfl) rfl rfl ⟨(blk_cell BK148.out 0).trans rfl, (blk_cell BK148.out 1).trans rfl, (blk_cell BK148.out 2).trans rfl, (blk_cell BK148.out 3).trans rfl⟩ (fun hHeld => ?_)
              generalize w43.drew = w45 at HO0 BK148 HK HB hHeld ⊢
              refine pure_ (i := 0) (N := some 42) (v := ?_) (a' := ?_) (bb 1 7) rfl rfl (by kernel_rfl) (fun _ _ _ h => h) (Or.inl ⟨by rfl, ?_⟩) ?_ ?_
              rotate_left
              · intro w'
                go_simp
                with_reducible rfl
              rotate_left
              · simp only [Act.put, List.setIfInBounds_toArray, List.set_cons_zero, List.set_cons_succ, i64_w, i32_w]
                rfl
              refine pure_ (i := 3) (N := some 45) (v := ?_) (a' := ?_) (bs 7 9) rfl rfl (by kernel_rfl) (fun _ _ _ h => h) (Or.inl ⟨by rfl, ?_⟩) ?_ ?_
              rotate_left
              · intro w'
                go_simp
                with_reducible rfl
              rotate_left
              · simp only [Act.put, List.setIfInBounds_toArray, List.set_cons_zero, List.set_cons_succ, i64_w, i32_w]
                rfl
              refine take_ (i := 4) (N := some 46) (v := ?_) (a' := ?_) (bs 7 25) rfl rfl (by kernel_rfl) (fun _ _ _ h => h) (Or.inl ⟨by rfl, ?_⟩) hHeld ?_ ?_
              rotate_left
              · rintro w' ⟨s0, s1, s2, s3⟩
                go_simp
                with_reducible rfl
              rotate_left
              · simp only [Act.put, List.setIfInBounds_toArray, List.set_cons_zero, List.set_cons_succ, i64_w, i32_w]
                rfl
              refine one_ (i := 1) (N := some 43) (bs 7 27) rfl rfl (by kernel_rfl) (by decide) (fun K hK => ?_)
              refine value_ (w1 := ?_) (v := ?_) (by rfl) rfl ?_ ?_
              rotate_left 2
              · go_simp
                constructor
                · rfl
                · rfl
              refine hK.out _ _ ⟨(blk_cell (blk_alloc BK148.out _) 0).trans rfl, (blk_cell (blk_alloc BK148.out _) 1).trans rfl, (blk_cell (blk_alloc BK148.out _) 2).trans rfl, (blk_cell (blk_alloc BK148.out _) 3).trans rfl⟩ (fun hHeld => ?_)
              clear hK K
              refine norm_ (a' := ?_) ?_ ?_
              rotate_left
              · show Act.put _ (some 43) _ = _
                simp only [Act.put, List.setIfInBounds_toArray, List.set_cons_zero, List.set_cons_succ, i64_w, i32_w]
                rfl
              refine one_ (i := 2) (N := some 44) (bb 5 7) rfl rfl (by kernel_rfl) (by decide) (fun K hK => ?_)
              refine Kd.R_append_step (Kd.int .u8) (w0 := w0) w0.heap.size (by rfl) (.tmp 42) (.tmp 43) 80 5 (.int .u8 0) 1 rfl Tryd.underlying80 info5 rfl (by decide) (by omega) u9000_ l0 6 [.int .u8 6] (fun k_ => (P0_ k_ ∨ w.heap.size ≤ k_)) (fun _ => False) rfl rfl ?aP (fun _ hk => hk.elim) ?aF ?aO ?aB ?aS ?aL ?_
              (case aP => exact rfl)
              (case aB => exact (bl HB))
              (case aF => exact (fun k_ hk => (.inr (Nat.le_trans (by first | exact HK.out.1 | exact (show Kept w _ (fun k_ => P0_ k_) from by repeat (first | (with_reducible first | exact HK.out | apply Kept.alloc | apply Kept.drewN | apply Kept.drew | refine Kept.setCell ?_ (.inr GW148.out) _) | exact HK.out)).1) hk))))
              (case aO => exact (Kd.rr HO0.out))
              (case aS => exact (below_size (bl HB)))
              (case aL => have := LMc41.out; omega)
              intro v178 w46 ho hb hg hat
              rw [← Ny177.out] at ho
              have n0_ := am (blk_grown (g := gb148) (o := .cells #[.int .i64 a1_0, .int .i64 a1_1, .float .f64 a1_2, .string a1_3] 50 (0, 0)) (bk BK148) hg (Kd.R_ne HO0.out BK148.out (by decide)))
              have n1_ := am (hb)
              have n2_ := am (Kept.of_grown (S := (fun k_ => P0_ k_)) hg (by repeat (first | (with_reducible first | exact HK.out | apply Kept.alloc | apply Kept.drewN | apply Kept.drew | refine Kept.setCell ?_ (.inr GW148.out) _) | exact HK.out)) (fun k_ e_ => (HO0.out.1 k_ e_)))
              have n3_ := am (ho)
              clear BK148
              clear HB
              clear HK
              clear HO0
              have BK148 := n0_
              have HB := n1_
              have HK := n2_
              have HO179 := n3_
              clear n0_ n1_ n2_ n3_
              clear ho hb hg hat
              obtain ⟨Ao47, co47, eo47⟩ := Kd.R_slice HO179.out
              (first | subst eo47 | (injection eo47 with f1_ f2_ f3_; have f4_ := f1_.symm; have f5_ := f3_.symm; clear f1_ f2_ f3_; subst f4_; subst f5_))
              refine hK.out _ _ ⟨(blk_cell BK148.out 0).trans rfl, (blk_cell BK148.out 1).trans rfl, (blk_cell BK148.out 2).trans rfl, (blk_cell BK148.out 3).trans rfl⟩ (fun hHeld => ?_)
              clear hK K
              refine norm_ (a' := ?_) ?_ ?_
              rotate_left
              · show Act.put _ (some 44) _ = _
                simp only [Act.put, List.setIfInBounds_toArray, List.set_cons_zero, List.set_cons_succ, i64_w, i32_w]
                rfl
              refine one_ (i := 5) (N := some 47) (bb 6 7) rfl rfl (by kernel_rfl) (by decide) (fun K hK => ?_)
              refine goes_ Tryd.func103 (by kernel_rfl) rfl #[.slice Ao47 y177.length co47, .string a1_3] (by rfl) rfl rfl ar ?_
              with_reducible refine (code_putString.calls (fun k_ => some k_ = (.slice Ao47 y177.length co47 : Value).ownBlock) (.slice Ao47 y177.length co47) y177 a1_3 t180 w0 _ ?side1 ?side2 ?side3 A42.out).mono ?_
              (case side1 => repeat (first | (with_reducible first | exact HB.out | apply below_alloc | apply pw_below_drewN | apply below_drew1 | refine below_set ?_ GE148.out) | exact HB.out))
              (case side2 => exact Kd.R_tight rfl HO179.out)
              (case side3 => exact HG.out)
              rintro e w48 ⟨v181, rfl, ho0, hb, hkp⟩
              refine ⟨_, rfl, ?_⟩
              have n0_ := am (blk_kept (bk BK148) hkp (fun hs_ => (fun e_ => (Kd.R_ne HO179.out BK148.out (by decide)) e_) hs_))
              have n1_ := am (Kd.R_mono (ok' := fun k_ => (P0_ k_ ∨ w.heap.size ≤ k_)) ho0 (fun k_ hk_ => Or.elim hk_ (fun hs_ => (HO179.out.1 k_ (hs_).symm)) (fun hn_ => (.inr (Nat.le_trans (by first | exact HK.out.1 | exact (show Kept w _ (fun k_ => P0_ k_) from by repeat (first | (with_reducible first | exact HK.out | apply Kept.alloc | apply Kept.drewN | apply Kept.drew | refine Kept.setCell ?_ (.inr GW148.out) _) | exact HK.out)).1) hn_)))))
              have n2_ := am (Kept.then_ (S := (fun k_ => P0_ k_)) (by repeat (first | (with_reducible first | exact HK.out | apply Kept.alloc | apply Kept.drewN | apply Kept.drew | refine Kept.setCell ?_ (.inr GW148.out) _) | exact HK.out)) hkp (fun k_ hs_ => (fun e_ => (HO179.out.1 k_ e_.symm)) hs_))
              have n3_ := am (hb)
              clear BK148
              clear HK
              clear HB
              clear HO179
              have BK148 := n0_
              have HO182 := n1_
              have HK := n2_
              have HB := n3_
              clear n0_ n1_ n2_ n3_
              (try clear hb)
              (try clear hkp)
              (try clear ho0)
              refine hK.out _ _ ⟨(blk_cell BK148.out 0).trans rfl, (blk_cell BK148.out 1).trans rfl, (blk_cell BK148.out 2).trans rfl, (blk_cell BK148.out 3).trans rfl⟩ (fun hHeld => ?_)
              clear hK K
              refine norm_ (a' := ?_) ?_ ?_
              rotate_left
              · show Act.put _ (some 47) _ = _
                simp only [Act.put, List.setIfInBounds_toArray, List.set_cons_zero, List.set_cons_succ, i64_w, i32_w]
                rfl
              refine pure_ (i := 6) (N := some 4) (v := ?_) (a' := ?_) (bb 7 7) rfl rfl (by kernel_rfl) (fun _ _ _ h => h) (Or.inl ⟨by rfl, ?_⟩) ?_ ?_
              rotate_left
              · intro w'
                go_simp
                with_reducible rfl
              rotate_left
              · simp only [Act.put, List.setIfInBounds_toArray, List.set_cons_zero, List.set_cons_succ, i64_w, i32_w]
                rfl
              refine done_ (by kernel_rfl) ?_
              try go_wp2
              go_ret
              exact ⟨_, er, Kd.rr HO182.out, bl HB, by repeat (first | (with_reducible first | exact HK.out | apply Kept.alloc | apply Kept.drewN | apply Kept.drew | refine Kept.setCell ?_ (.inr GW148.out) _) | exact HK.out)⟩
            · rw [if_neg c41] at H
              exact absurd H (by simp)
          · rw [if_neg c40] at H
            have c40b0 : (a1_0 == 5) = false := beq_eq_false_iff_ne.mpr c40
            have c40b1 : (a1_0 != 5) = true := bne_iff_ne.mpr c40
            by_cases c49 : l0.length < 140737488355328
            · rw [if_pos c49] at H
              have LMc49 := am c49
              clear c49
              obtain ⟨y183, hy183⟩ : ∃ y_ : List Int, y_ = (l0 ++ [1]) := ⟨_, rfl⟩
              replace H : (some y183) = some r := by first | (rw [hy183]; with_reducible exact H) | (have H2_ := (Option.bind_some _ _).symm.trans H; rw [hy183]; with_reducible exact H2_) | (have H2_ := (Option.bind_some _ _).symm.trans H; with_reducible exact H2_) | with_reducible exact H | (rw [hy183]; exact H) | exact H
              have Ny183 := am hy183
              clear hy183
              obtain rfl := Option.some.inj H
              go_enter Tryd.func68, Tryd.ntmps68
              go_wp2_with (first | ((with_reducible refine gate_dst (N := 3) rfl ?_); refine box_event rfl (N := 3) rfl (cs := #[.int .i64 a1_0, .int .i64 a1_1, .float .f64 a1_2, .string a1_3]) (t := 50) gs ?_; intro gb148 hg w50 hbox hb; have n0_ := am (Kd.R_below (Kd.rr HO0.out) hb); have n1_ := am (Kept.below (S := (fun k_ => P0_ k_)) (by repeat (first | (with_reducible first | exact HK.out | apply Kept.alloc | apply Kept.drewN | apply Kept.drew) | exact HK.out)) hb); have n2_ := sb HB hb; have n3_ := am (hbox); have n4_ := am ((by rw [hg]; exact (by first | exact HK.out.1 | exact (show Kept w _ (fun k_ => P0_ k_) from by repeat (first | (with_reducible first | exact HK.out | apply Kept.alloc | apply Kept.drewN | apply Kept.drew) | exact HK.out)).1) : w.heap.size ≤ gb148)); have n5_ := am ((by rw [hg]; exact (below_size (bl HB)) : w0.heap.size ≤ gb148)); clear HO0; clear HK; clear HB; have HO0 := n0_; have HK := n1_; have HB := n2_; have BK148 := n3_; have GW148 := n4_; have GE148 := n5_; clear n0_ n1_ n2_ n3_ n4_ n5_; clear hb hbox hg; obtain ⟨Z51_0, Z51_1, Z51_2, Z51_3, Y51_0, Y51_1, Y51_2, Y51_3⟩ := bq4 BK148) | ((with_reducible refine gate_builtin (b := .append) (xs := #[.tmp 48, .tmp 49]) rfl ?_); at_builtin; refine Kd.R_append (Kd.int .u8) (w0 := w0) w0.heap.size rfl (.tmp 48) (.tmp 49) 80 5 (.int .u8 0) 1 rfl Tryd.underlying80 info5 rfl (by decide) (by omega) u9000_ l0 1 [.int .u8 1] (fun k_ => (P0_ k_ ∨ w.heap.size ≤ k_)) (fun _ => False) rfl rfl ?aP (fun _ hk => hk.elim) ?aF ?aO ?aB ?aS ?aL ?_; (case aP => exact rfl); (case aB => exact (bl HB)); (case aF => exact (fun k_ hk => (.inr (Nat.le_trans (by first | exact HK.out.1 | exact (show Kept w _ (fun k_ => P0_ k_) from by repeat (first | (with_reducible first | exact HK.out | apply Kept.alloc | apply Kept.drewN | apply Kept.drew | refine Kept.setCell ?_ (.inr GW148.out) _) | exact HK.out)).1) hk)))); (case aO => exact (Kd.rr HO0.out)); (case aS => exact (below_size (bl HB))); (case aL => have := LMc49.out; omega); intro v184 w52 ho hb hg hat; rw [← Ny183.out] at ho; have n0_ := am (blk_grown (g := gb148) (o := .cells #[.int .i64 a1_0, .int .i64 a1_1, .float .f64 a1_2, .string a1_3] 50 (0, 0)) (bk BK148) hg (Kd.R_ne HO0.out BK148.out (by decide))); have n1_ := am (hb); have n2_ := am (Kept.of_grown (S := (fun k_ => P0_ k_)) hg (by repeat (first | (with_reducible first | exact HK.out | apply Kept.alloc | apply Kept.drewN | apply Kept.drew | refine Kept.setCell ?_ (.inr GW148.out) _) | exact HK.out)) (fun k_ e_ => (HO0.out.1 k_ e_))); have n3_ := am (ho); clear BK148; clear HB; clear HK; clear HO0; have BK148 := n0_; have HB := n1_; have HK := n2_; have HO185 := n3_; clear n0_ n1_ n2_ n3_; clear ho hb hg hat))
              go_ret
              exact ⟨_, er, Kd.rr HO185.out, bl HB, by repeat (first | (with_reducible first | exact HK.out | apply Kept.alloc | apply Kept.drewN | apply Kept.drew | refine Kept.setCell ?_ (.inr GW148.out) _) | exact HK.out)⟩
            · rw [if_neg c49] at H
              exact absurd H (by simp)
mutual
def code_Encode.l0 : Nat → List (S50) → List (S50) → Int → Int → Option (ByteArray × Int)
  | 0, _, _, _, _ => none
  | k + 1, x0, x9, x10, x11 => if x11 < x10 then (if 0 ≤ x11 then (if x11 < (x9.length : Int) then ((value_Check.f k ((rd_T50 x9 x11).f0) ((rd_T50 x9 x11).f1) ((rd_T50 x9 x11).f2) ((rd_T50 x9 x11).f3)).bind fun t188 => (if t188 = 0 then (code_Encode.l0 k x0 x9 x10 (wrap64 (x11 + 1))) else (some ((⟨#[]⟩ : ByteArray), 10)))) else (none)) else (none)) else (code_Encode.l1 k ([] : List Int) x0 (x0.length : Int) 0)
def code_Encode.l1 : Nat → List Int → List (S50) → Int → Int → Option (ByteArray × Int)
  | 0, _, _, _, _ => none
  | k + 1, x6, x19, x20, x21 => if x21 < x20 then (if 0 ≤ x21 then (if x21 < (x19.length : Int) then ((code_put.f k x6 ((rd_T50 x19 x21).f0) ((rd_T50 x19 x21).f1) ((rd_T50 x19 x21).f2) ((rd_T50 x19 x21).f3)).bind fun t191 => (if (t191.length : Int) > 1024 then (some ((⟨#[]⟩ : ByteArray), 3)) else (code_Encode.l1 k t191 x19 x20 (wrap64 (x21 + 1))))) else (none)) else (none)) else (some (strOfNums x6, 0))
end
def code_Encode.f (k : Nat) (l0 : List (S50)) : Option (ByteArray × Int) := code_Encode.l0 k l0 l0 (l0.length : Int) 0
set_option maxHeartbeats 8000000 in
set_option maxRecDepth 100000 in
theorem code_Encode.calls (k : Nat) (A0 : Option Addr) (c0 : Nat) (l0 : List (S50)) (r1 : ByteArray) (r2 : Int) (w : World) (hr0 : Kd.C k50 w A0 l0.length l0) (hc0 : l0.length ≤ c0) (hG : Glob w) (h : code_Encode.f k l0 = some (r1, r2)) :
    Calls Tryd.prog 21 #[.slice A0 l0.length c0] w fun e w' => e = .returned (.tuple #[.string r1, .int .i64 r2]) ∧ Below w.heap.size w w' := by
  have hu50 := Tryd.underlying50
  have HR0 := am hr0
  have HC0 := am hc0
  clear hr0 hc0
  have HG := am hG
  clear hG
  have HB := am (Below.refl w.heap.size w)
  have H : (code_Encode.l0 k l0 l0 (l0.length : Int) 0) = some (r1, r2) := h
  clear h
  have H' := am H
  clear H
  go_enter Tryd.func21, Tryd.ntmps21
  go_wp2
  go_loopg [11] k (fun kq v11 w' => ∃ (x11_1 : Int), v11 = .int .i64 x11_1 ∧ Aside0 (code_Encode.l0 kq l0 l0 (l0.length : Int) x11_1 = some (r1, r2)) ∧ Aside0 (kq ≤ k) ∧ Aside0 (Below w.heap.size w w'))
  case atStart => exact ⟨(0), eb, H', ⟨Nat.le_refl _⟩, ⟨bl HB⟩⟩
  case round =>
    clear H'
    obtain ⟨x11_1, rfl, HA, HK1, HB⟩ := hrel
    cases gk with
    | zero => exact absurd HA.out (by simp [code_Encode.l0])
    | succ k1 =>
      have H := HA.out
      clear HA
      simp only [code_Encode.l0] at H
      by_cases c2 : x11_1 < (l0.length : Int)
      · rw [if_pos c2] at H
        have c2b0 : decide (x11_1 < (l0.length : Int)) = true := decide_eq_true c2
        clear c2
        by_cases c3 : 0 ≤ x11_1
        · rw [if_pos c3] at H
          have c3b0 : decide (0 ≤ x11_1) = true := decide_eq_true c3
          clear c3
          by_cases c4 : x11_1 < (l0.length : Int)
          · rw [if_pos c4] at H
            have c4b0 : decide (x11_1 < (l0.length : Int)) = true := decide_eq_true c4
            clear c4
            replace H := Option.bind_eq_some_iff.mp H
            obtain ⟨t188, A50, H⟩ := H
            replace H : (if t188 = 0 then (code_Encode.l0 k1 l0 l0 (l0.length : Int) (wrap64 (x11_1 + 1))) else (some ((⟨#[]⟩ : ByteArray), 10))) = some (r1, r2) := H
            have A5 := am A50
            clear A50
            by_cases c6 : t188 = 0
            · rw [if_pos c6] at H
              have c6b0 : (t188 == 0) = true := beq_iff_eq.mpr c6
              have c6b1 : (t188 != 0) = false := bne_eq_false_iff_eq.mpr c6
              clear c6
              have H' := am H
              clear H
              have p186 : 0 ≤ (x11_1 : Int) := oda
              have q186 : x11_1 < (l0.length : Int) := oda
              obtain ⟨ad186, e186, hx186_0, hx186_1, hx186_2, hx186_3⟩ := at_T50 HR0.out x11_1 p186 q186
              cases e186
              replace hx186_0 := hc HB hx186_0
              replace hx186_1 := hc HB hx186_1
              replace hx186_2 := hc HB hx186_2
              replace hx186_3 := hc HB hx186_3
              replace p186 := eq_true p186
              replace q186 := eq_true q186
              go_wp2_with (first | ((with_reducible refine gate_dst (N := 5) rfl ?_); refine box_event rfl (N := 5) rfl (cs := #[.int .i64 0, .int .i64 0, .float .f64 0, .string (⟨#[]⟩ : ByteArray)]) (t := 50) gs ?_; intro gb187 hg w7 hbox hb; have BK187 := am (hbox); have GW187 := gw hg HB; have GE187 := gw hg HB; replace HB := sb HB hb; clear hb hbox hg; obtain ⟨Z8_0, Z8_1, Z8_2, Z8_3, Y8_0, Y8_1, Y8_2, Y8_3⟩ := bq4 BK187) | ((with_reducible refine gate_callee (f := 67) rfl ?_); refine goesL_ (some 16) rfl rfl Tryd.func67 (by kernel_rfl) rfl #[.agg #[.int .i64 ((rd_T50 l0 x11_1).f0), .int .i64 ((rd_T50 l0 x11_1).f1), .float .f64 ((rd_T50 l0 x11_1).f2), .string ((rd_T50 l0 x11_1).f3)]] rfl ar ?_; (with_reducible refine (value_Check.calls k1 ((rd_T50 l0 x11_1).f0) ((rd_T50 l0 x11_1).f1) ((rd_T50 l0 x11_1).f2) ((rd_T50 l0 x11_1).f3) t188 _ (Glob.below HG.out (bl HB)) A5.out).mono ?_); rintro e w9 ⟨rfl, hb⟩; refine ⟨_, rfl, ?_⟩; replace BK187 := am (blk_below (g := gb187) (o := .cells #[.int .i64 ((rd_T50 l0 x11_1).f0), .int .i64 ((rd_T50 l0 x11_1).f1), .float .f64 ((rd_T50 l0 x11_1).f2), .string ((rd_T50 l0 x11_1).f3)] 50 (0, 0)) (by refine rp ?_; refine blk_put (cs := #[.int .i64 ((rd_T50 l0 x11_1).f0), .int .i64 ((rd_T50 l0 x11_1).f1), .float .f64 ((rd_T50 l0 x11_1).f2), .string (⟨#[]⟩ : ByteArray)]) ?_ 3 _ rfl; refine rp ?_; refine blk_put (cs := #[.int .i64 ((rd_T50 l0 x11_1).f0), .int .i64 ((rd_T50 l0 x11_1).f1), .float .f64 0, .string (⟨#[]⟩ : ByteArray)]) ?_ 2 _ rfl; refine rp ?_; refine blk_put (cs := #[.int .i64 ((rd_T50 l0 x11_1).f0), .int .i64 0, .float .f64 0, .string (⟨#[]⟩ : ByteArray)]) ?_ 1 _ rfl; refine rp ?_; refine blk_put (cs := #[.int .i64 0, .int .i64 0, .float .f64 0, .string (⟨#[]⟩ : ByteArray)]) ?_ 0 _ rfl; exact bk BK187) hb); replace HB := sb HB hb; (try clear hb); (try clear hb2 hk hi)))
              go_roundg k1
              case measure => have := HK1.out; omega
              case rel => exact ⟨(wrap64 (x11_1 + 1)), eb, H', ⟨by have := HK1.out; omega⟩, ⟨bl HB⟩⟩
            · rw [if_neg c6] at H
              have c6b0 : (t188 == 0) = false := beq_eq_false_iff_ne.mpr c6
              have c6b1 : (t188 != 0) = true := bne_iff_ne.mpr c6
              simp only [Option.some.injEq, Prod.mk.injEq] at H
              obtain ⟨rfl, rfl⟩ := H
              have p186 : 0 ≤ (x11_1 : Int) := oda
              have q186 : x11_1 < (l0.length : Int) := oda
              obtain ⟨ad186, e186, hx186_0, hx186_1, hx186_2, hx186_3⟩ := at_T50 HR0.out x11_1 p186 q186
              cases e186
              replace hx186_0 := hc HB hx186_0
              replace hx186_1 := hc HB hx186_1
              replace hx186_2 := hc HB hx186_2
              replace hx186_3 := hc HB hx186_3
              replace p186 := eq_true p186
              replace q186 := eq_true q186
              go_wp2_with (first | ((with_reducible refine gate_dst (N := 5) rfl ?_); refine box_event rfl (N := 5) rfl (cs := #[.int .i64 0, .int .i64 0, .float .f64 0, .string (⟨#[]⟩ : ByteArray)]) (t := 50) gs ?_; intro gb187 hg w10 hbox hb; have BK187 := am (hbox); have GW187 := gw hg HB; have GE187 := gw hg HB; replace HB := sb HB hb; clear hb hbox hg; obtain ⟨Z11_0, Z11_1, Z11_2, Z11_3, Y11_0, Y11_1, Y11_2, Y11_3⟩ := bq4 BK187) | ((with_reducible refine gate_callee (f := 67) rfl ?_); refine goesL_ (some 16) rfl rfl Tryd.func67 (by kernel_rfl) rfl #[.agg #[.int .i64 ((rd_T50 l0 x11_1).f0), .int .i64 ((rd_T50 l0 x11_1).f1), .float .f64 ((rd_T50 l0 x11_1).f2), .string ((rd_T50 l0 x11_1).f3)]] rfl ar ?_; (with_reducible refine (value_Check.calls k1 ((rd_T50 l0 x11_1).f0) ((rd_T50 l0 x11_1).f1) ((rd_T50 l0 x11_1).f2) ((rd_T50 l0 x11_1).f3) t188 _ (Glob.below HG.out (bl HB)) A5.out).mono ?_); rintro e w12 ⟨rfl, hb⟩; refine ⟨_, rfl, ?_⟩; replace BK187 := am (blk_below (g := gb187) (o := .cells #[.int .i64 ((rd_T50 l0 x11_1).f0), .int .i64 ((rd_T50 l0 x11_1).f1), .float .f64 ((rd_T50 l0 x11_1).f2), .string ((rd_T50 l0 x11_1).f3)] 50 (0, 0)) (by refine rp ?_; refine blk_put (cs := #[.int .i64 ((rd_T50 l0 x11_1).f0), .int .i64 ((rd_T50 l0 x11_1).f1), .float .f64 ((rd_T50 l0 x11_1).f2), .string (⟨#[]⟩ : ByteArray)]) ?_ 3 _ rfl; refine rp ?_; refine blk_put (cs := #[.int .i64 ((rd_T50 l0 x11_1).f0), .int .i64 ((rd_T50 l0 x11_1).f1), .float .f64 0, .string (⟨#[]⟩ : ByteArray)]) ?_ 2 _ rfl; refine rp ?_; refine blk_put (cs := #[.int .i64 ((rd_T50 l0 x11_1).f0), .int .i64 0, .float .f64 0, .string (⟨#[]⟩ : ByteArray)]) ?_ 1 _ rfl; refine rp ?_; refine blk_put (cs := #[.int .i64 0, .int .i64 0, .float .f64 0, .string (⟨#[]⟩ : ByteArray)]) ?_ 0 _ rfl; exact bk BK187) hb); replace HB := sb HB hb; (try clear hb); (try clear hb2 hk hi)))
              go_ret2
              exact ⟨er, bl HB⟩
          · rw [if_neg c4] at H
            exact absurd H (by simp)
        · rw [if_neg c3] at H
          exact absurd H (by simp)
      · rw [if_neg c2] at H
        have c2b0 : decide (x11_1 < (l0.length : Int)) = false := decide_eq_false c2
        clear c2
        have H' := am H
        clear H
        go_wp2
        go_loopg [6, 21] k1 (fun kq v6 v21 w' => ∃ (x6_2 : List Int) (x21_2 : Int), v21 = .int .i64 x21_2 ∧ Aside0 (code_Encode.l1 kq x6_2 l0 (l0.length : Int) x21_2 = some (r1, r2)) ∧ Aside0 (kq ≤ k1) ∧ Aside0 (Kd.R (Kd.int .u8) 5 w' w.heap.size (fun _ => True) v6 x6_2) ∧ Aside0 (Below w.heap.size w w'))
        case atStart => exact ⟨(([] : List Int)), (0), eb, H', ⟨Nat.le_refl _⟩, ⟨by first | exact Kd.R_nil _ _ _ _ _ | exact Kd.N_nil _ _ _ _ _ | exact Kd.V_nil _ _ _ _ _ | exact Kd.Q_nil _ _ _ _ _ | exact Kd.S_nil _ _ _ _ _⟩, ⟨bl HB⟩⟩
        case round =>
          clear H'
          try clear p1
          try clear q1
          try clear hx1
          try clear c2
          try clear c2b0
          try clear p2
          try clear c3
          try clear c3b0
          try clear c4
          try clear c4b0
          try clear c6
          try clear c6b0
          try clear c6b1
          try clear p6
          try clear Z11_0
          try clear Z11_1
          try clear Z11_2
          try clear Z11_3
          try clear Z8_0
          try clear Z8_1
          try clear Z8_2
          try clear Z8_3
          try clear Y11_0
          try clear Y11_1
          try clear Y11_2
          try clear Y11_3
          try clear Y8_0
          try clear Y8_1
          try clear Y8_2
          try clear Y8_3
          try clear hx186_0
          try clear hx186_1
          try clear hx186_2
          try clear hx186_3
          try clear p186
          try clear q186
          obtain ⟨x6_2, x21_2, rfl, HA, HK2, HO_6, HB⟩ := hrel
          cases gk with
          | zero => exact absurd HA.out (by simp [code_Encode.l1])
          | succ k2 =>
            have H := HA.out
            clear HA
            simp only [code_Encode.l1] at H
            by_cases c13 : x21_2 < (l0.length : Int)
            · rw [if_pos c13] at H
              have c13b0 : decide (x21_2 < (l0.length : Int)) = true := decide_eq_true c13
              clear c13
              by_cases c14 : 0 ≤ x21_2
              · rw [if_pos c14] at H
                have c14b0 : decide (0 ≤ x21_2) = true := decide_eq_true c14
                clear c14
                by_cases c15 : x21_2 < (l0.length : Int)
                · rw [if_pos c15] at H
                  have c15b0 : decide (x21_2 < (l0.length : Int)) = true := decide_eq_true c15
                  clear c15
                  replace H := Option.bind_eq_some_iff.mp H
                  obtain ⟨t191, A160, H⟩ := H
                  replace H : (if (t191.length : Int) > 1024 then (some ((⟨#[]⟩ : ByteArray), 3)) else (code_Encode.l1 k2 t191 l0 (l0.length : Int) (wrap64 (x21_2 + 1)))) = some (r1, r2) := H
                  have A16 := am A160
                  clear A160
                  by_cases c17 : (t191.length : Int) > 1024
                  · rw [if_pos c17] at H
                    have c17b0 : decide (1024 < (t191.length : Int)) = true := decide_eq_true c17
                    have c17b1 : decide (1024 < t191.length) = true := decide_eq_true (by omega)
                    clear c17
                    simp only [Option.some.injEq, Prod.mk.injEq] at H
                    obtain ⟨rfl, rfl⟩ := H
                    have p189 : 0 ≤ (x21_2 : Int) := oda
                    have q189 : x21_2 < (l0.length : Int) := oda
                    obtain ⟨ad189, e189, hx189_0, hx189_1, hx189_2, hx189_3⟩ := at_T50 HR0.out x21_2 p189 q189
                    cases e189
                    replace hx189_0 := hc HB hx189_0
                    replace hx189_1 := hc HB hx189_1
                    replace hx189_2 := hc HB hx189_2
                    replace hx189_3 := hc HB hx189_3
                    replace p189 := eq_true p189
                    replace q189 := eq_true q189
                    go_wp2_with (first | ((with_reducible refine gate_dst (N := 8) rfl ?_); refine box_event rfl (N := 8) rfl (cs := #[.int .i64 0, .int .i64 0, .float .f64 0, .string (⟨#[]⟩ : ByteArray)]) (t := 50) gs ?_; intro gb190 hg w18 hbox hb; have n0_ := am (Kd.R_below (Kd.rr HO_6.out) hb); have n1_ := sb HB hb; have n2_ := am (hbox); have n3_ := gw hg HB; have n4_ := gw hg HB; clear HO_6; clear HB; have HO_6 := n0_; have HB := n1_; have BK190 := n2_; have GW190 := n3_; have GE190 := n4_; clear n0_ n1_ n2_ n3_ n4_; clear hb hbox hg; obtain ⟨Z19_0, Z19_1, Z19_2, Z19_3, Y19_0, Y19_1, Y19_2, Y19_3⟩ := bq4 BK190) | ((with_reducible refine gate_store (t := 50) (p := 8) rfl ?_); refine store_event (t := 50) (p := 8) (v := ?vo_w20) (w1 := ((((w18.setCell ⟨gb190, 0, none⟩ (.int .i64 ((rd_T50 l0 x21_2).f0))).setCell ⟨gb190, 1, none⟩ (.int .i64 ((rd_T50 l0 x21_2).f1))).setCell ⟨gb190, 2, none⟩ (.float .f64 ((rd_T50 l0 x21_2).f2))).setCell ⟨gb190, 3, none⟩ (.string ((rd_T50 l0 x21_2).f3)))) ?hg ?ho ?hn ?hr ?_; (case ho => rfl); (case hg => rfl); (case hn => rfl); (case hr => first | (go_simp; done) | (go_simp; rfl)); intro w20 hw; have n0_ : Aside0 (Kd.R (Kd.int .u8) 5 w20 w.heap.size (fun _ => True) u6 x6_2) := ⟨(by rw [hw]; exact (by (with_reducible repeat (first | apply Kd.R_alloc | apply Kd.R_drewN | apply Kd.R_drew)); exact Kd.R_mono (Kd.R_far (p := ⟨gb190, 3, none⟩) (Kd.R_far (p := ⟨gb190, 2, none⟩) (Kd.R_far (p := ⟨gb190, 1, none⟩) (Kd.R_far (p := ⟨gb190, 0, none⟩) (Kd.R_types HO_6.out BK190.out (by decide)) (fun _ hk => hk.2) (.int .i64 ((rd_T50 l0 x21_2).f0))) (fun _ hk => hk.2) (.int .i64 ((rd_T50 l0 x21_2).f1))) (fun _ hk => hk.2) (.float .f64 ((rd_T50 l0 x21_2).f2))) (fun _ hk => hk.2) (.string ((rd_T50 l0 x21_2).f3))) (fun _ hk => trivial)))⟩; have n1_ : Aside0 (w20.heap[gb190]? = some (.cells #[.int .i64 ((rd_T50 l0 x21_2).f0), .int .i64 ((rd_T50 l0 x21_2).f1), .float .f64 ((rd_T50 l0 x21_2).f2), .string ((rd_T50 l0 x21_2).f3)] 50 (0, 0))) := ⟨(by rw [hw]; exact (by refine rp ?_; refine blk_put (cs := #[.int .i64 ((rd_T50 l0 x21_2).f0), .int .i64 ((rd_T50 l0 x21_2).f1), .float .f64 ((rd_T50 l0 x21_2).f2), .string (⟨#[]⟩ : ByteArray)]) ?_ 3 _ rfl; refine rp ?_; refine blk_put (cs := #[.int .i64 ((rd_T50 l0 x21_2).f0), .int .i64 ((rd_T50 l0 x21_2).f1), .float .f64 0, .string (⟨#[]⟩ : ByteArray)]) ?_ 2 _ rfl; refine rp ?_; refine blk_put (cs := #[.int .i64 ((rd_T50 l0 x21_2).f0), .int .i64 0, .float .f64 0, .string (⟨#[]⟩ : ByteArray)]) ?_ 1 _ rfl; refine rp ?_; refine blk_put (cs := #[.int .i64 0, .int .i64 0, .float .f64 0, .string (⟨#[]⟩ : ByteArray)]) ?_ 0 _ rfl; exact bk BK190))⟩; have n2_ : Aside0 (Below w.heap.size w w20) := ⟨(by rw [hw]; exact (bl HB))⟩; clear hw; clear HO_6; clear BK190; clear HB; have HO_6 := n0_; have BK190 := n1_; have HB := n2_; clear n0_ n1_ n2_; obtain ⟨Z21_0, Z21_1, Z21_2, Z21_3, Y21_0, Y21_1, Y21_2, Y21_3⟩ := bq4 BK190; obtain ⟨Ao22, co22, eo22⟩ := Kd.R_slice HO_6.out; subst eo22) | ((with_reducible refine gate_callee (f := 68) rfl ?_); refine goesL_ (some 27) rfl rfl Tryd.func68 (by kernel_rfl) rfl #[.slice Ao22 x6_2.length co22, .agg #[.int .i64 ((rd_T50 l0 x21_2).f0), .int .i64 ((rd_T50 l0 x21_2).f1), .float .f64 ((rd_T50 l0 x21_2).f2), .string ((rd_T50 l0 x21_2).f3)]] rfl ar ?_; (with_reducible refine (code_put.calls k2 (fun k_ => some k_ = (.slice Ao22 x6_2.length co22 : Value).ownBlock) (.slice Ao22 x6_2.length co22) x6_2 ((rd_T50 l0 x21_2).f0) ((rd_T50 l0 x21_2).f1) ((rd_T50 l0 x21_2).f2) ((rd_T50 l0 x21_2).f3) t191 w _ ?side1 ?side2 HG.out A16.out).mono ?_); (case side1 => repeat (first | (with_reducible first | exact HB.out | apply below_alloc | apply pw_below_drewN | apply below_drew1 | refine below_set ?_ GE190.out) | exact HB.out)); (case side2 => exact Kd.R_tight rfl HO_6.out); rintro e w23 ⟨v192, rfl, ho0, hb, hkp⟩; refine ⟨_, rfl, ?_⟩; have n0_ := am (blk_kept (bk BK190) hkp (fun hs_ => (fun e_ => (Kd.R_ne HO_6.out BK190.out (by decide)) e_) hs_)); have n1_ := am (Kd.R_mono (ok' := fun k_ => True) ho0 (fun k_ hk_ => trivial)); have n2_ := am (hb); clear BK190; clear HB; clear HO_6; have BK190 := n0_; have HO193 := n1_; have HB := n2_; clear n0_ n1_ n2_; (try clear hb); (try clear hkp); (try clear ho0); obtain ⟨Ao24, co24, eo24⟩ := Kd.R_slice HO193.out; subst eo24))
                    go_ret2
                    exact ⟨er, bl HB⟩
                  · rw [if_neg c17] at H
                    have c17b0 : decide (1024 < (t191.length : Int)) = false := decide_eq_false c17
                    have c17b1 : decide (1024 < t191.length) = false := decide_eq_false (by omega)
                    clear c17
                    have H' := am H
                    clear H
                    have p189 : 0 ≤ (x21_2 : Int) := oda
                    have q189 : x21_2 < (l0.length : Int) := oda
                    obtain ⟨ad189, e189, hx189_0, hx189_1, hx189_2, hx189_3⟩ := at_T50 HR0.out x21_2 p189 q189
                    cases e189
                    replace hx189_0 := hc HB hx189_0
                    replace hx189_1 := hc HB hx189_1
                    replace hx189_2 := hc HB hx189_2
                    replace hx189_3 := hc HB hx189_3
                    replace p189 := eq_true p189
                    replace q189 := eq_true q189
                    go_wp2_with (first | ((with_reducible refine gate_dst (N := 8) rfl ?_); refine box_event rfl (N := 8) rfl (cs := #[.int .i64 0, .int .i64 0, .float .f64 0, .string (⟨#[]⟩ : ByteArray)]) (t := 50) gs ?_; intro gb190 hg w25 hbox hb; have n0_ := am (Kd.R_below (Kd.rr HO_6.out) hb); have n1_ := sb HB hb; have n2_ := am (hbox); have n3_ := gw hg HB; have n4_ := gw hg HB; clear HO_6; clear HB; have HO_6 := n0_; have HB := n1_; have BK190 := n2_; have GW190 := n3_; have GE190 := n4_; clear n0_ n1_ n2_ n3_ n4_; clear hb hbox hg; obtain ⟨Z26_0, Z26_1, Z26_2, Z26_3, Y26_0, Y26_1, Y26_2, Y26_3⟩ := bq4 BK190) | ((with_reducible refine gate_store (t := 50) (p := 8) rfl ?_); refine store_event (t := 50) (p := 8) (v := ?vo_w27) (w1 := ((((w25.setCell ⟨gb190, 0, none⟩ (.int .i64 ((rd_T50 l0 x21_2).f0))).setCell ⟨gb190, 1, none⟩ (.int .i64 ((rd_T50 l0 x21_2).f1))).setCell ⟨gb190, 2, none⟩ (.float .f64 ((rd_T50 l0 x21_2).f2))).setCell ⟨gb190, 3, none⟩ (.string ((rd_T50 l0 x21_2).f3)))) ?hg ?ho ?hn ?hr ?_; (case ho => rfl); (case hg => rfl); (case hn => rfl); (case hr => first | (go_simp; done) | (go_simp; rfl)); intro w27 hw; have n0_ : Aside0 (Kd.R (Kd.int .u8) 5 w27 w.heap.size (fun _ => True) u6 x6_2) := ⟨(by rw [hw]; exact (by (with_reducible repeat (first | apply Kd.R_alloc | apply Kd.R_drewN | apply Kd.R_drew)); exact Kd.R_mono (Kd.R_far (p := ⟨gb190, 3, none⟩) (Kd.R_far (p := ⟨gb190, 2, none⟩) (Kd.R_far (p := ⟨gb190, 1, none⟩) (Kd.R_far (p := ⟨gb190, 0, none⟩) (Kd.R_types HO_6.out BK190.out (by decide)) (fun _ hk => hk.2) (.int .i64 ((rd_T50 l0 x21_2).f0))) (fun _ hk => hk.2) (.int .i64 ((rd_T50 l0 x21_2).f1))) (fun _ hk => hk.2) (.float .f64 ((rd_T50 l0 x21_2).f2))) (fun _ hk => hk.2) (.string ((rd_T50 l0 x21_2).f3))) (fun _ hk => trivial)))⟩; have n1_ : Aside0 (w27.heap[gb190]? = some (.cells #[.int .i64 ((rd_T50 l0 x21_2).f0), .int .i64 ((rd_T50 l0 x21_2).f1), .float .f64 ((rd_T50 l0 x21_2).f2), .string ((rd_T50 l0 x21_2).f3)] 50 (0, 0))) := ⟨(by rw [hw]; exact (by refine rp ?_; refine blk_put (cs := #[.int .i64 ((rd_T50 l0 x21_2).f0), .int .i64 ((rd_T50 l0 x21_2).f1), .float .f64 ((rd_T50 l0 x21_2).f2), .string (⟨#[]⟩ : ByteArray)]) ?_ 3 _ rfl; refine rp ?_; refine blk_put (cs := #[.int .i64 ((rd_T50 l0 x21_2).f0), .int .i64 ((rd_T50 l0 x21_2).f1), .float .f64 0, .string (⟨#[]⟩ : ByteArray)]) ?_ 2 _ rfl; refine rp ?_; refine blk_put (cs := #[.int .i64 ((rd_T50 l0 x21_2).f0), .int .i64 0, .float .f64 0, .string (⟨#[]⟩ : ByteArray)]) ?_ 1 _ rfl; refine rp ?_; refine blk_put (cs := #[.int .i64 0, .int .i64 0, .float .f64 0, .string (⟨#[]⟩ : ByteArray)]) ?_ 0 _ rfl; exact bk BK190))⟩; have n2_ : Aside0 (Below w.heap.size w w27) := ⟨(by rw [hw]; exact (bl HB))⟩; clear hw; clear HO_6; clear BK190; clear HB; have HO_6 := n0_; have BK190 := n1_; have HB := n2_; clear n0_ n1_ n2_; obtain ⟨Z28_0, Z28_1, Z28_2, Z28_3, Y28_0, Y28_1, Y28_2, Y28_3⟩ := bq4 BK190; obtain ⟨Ao29, co29, eo29⟩ := Kd.R_slice HO_6.out; subst eo29) | ((with_reducible refine gate_callee (f := 68) rfl ?_); refine goesL_ (some 27) rfl rfl Tryd.func68 (by kernel_rfl) rfl #[.slice Ao29 x6_2.length co29, .agg #[.int .i64 ((rd_T50 l0 x21_2).f0), .int .i64 ((rd_T50 l0 x21_2).f1), .float .f64 ((rd_T50 l0 x21_2).f2), .string ((rd_T50 l0 x21_2).f3)]] rfl ar ?_; (with_reducible refine (code_put.calls k2 (fun k_ => some k_ = (.slice Ao29 x6_2.length co29 : Value).ownBlock) (.slice Ao29 x6_2.length co29) x6_2 ((rd_T50 l0 x21_2).f0) ((rd_T50 l0 x21_2).f1) ((rd_T50 l0 x21_2).f2) ((rd_T50 l0 x21_2).f3) t191 w _ ?side1 ?side2 HG.out A16.out).mono ?_); (case side1 => repeat (first | (with_reducible first | exact HB.out | apply below_alloc | apply pw_below_drewN | apply below_drew1 | refine below_set ?_ GE190.out) | exact HB.out)); (case side2 => exact Kd.R_tight rfl HO_6.out); rintro e w30 ⟨v192, rfl, ho0, hb, hkp⟩; refine ⟨_, rfl, ?_⟩; have n0_ := am (blk_kept (bk BK190) hkp (fun hs_ => (fun e_ => (Kd.R_ne HO_6.out BK190.out (by decide)) e_) hs_)); have n1_ := am (Kd.R_mono (ok' := fun k_ => True) ho0 (fun k_ hk_ => trivial)); have n2_ := am (hb); clear BK190; clear HB; clear HO_6; have BK190 := n0_; have HO193 := n1_; have HB := n2_; clear n0_ n1_ n2_; (try clear hb); (try clear hkp); (try clear ho0); obtain ⟨Ao31, co31, eo31⟩ := Kd.R_slice HO193.out; subst eo31))
                    go_roundg k2
                    case measure => have := HK1.out; have := HK2.out; omega
                    case rel => exact ⟨(t191), (wrap64 (x21_2 + 1)), eb, H', ⟨by have := HK1.out; have := HK2.out; omega⟩, ⟨Kd.rr HO193.out⟩, ⟨bl HB⟩⟩
                · rw [if_neg c15] at H
                  exact absurd H (by simp)
              · rw [if_neg c14] at H
                exact absurd H (by simp)
            · rw [if_neg c13] at H
              have c13b0 : decide (x21_2 < (l0.length : Int)) = false := decide_eq_false c13
              clear c13
              simp only [Option.some.injEq, Prod.mk.injEq] at H
              obtain ⟨rfl, rfl⟩ := H
              have hcv32 := own_string (P := Tryd.prog) Tryd.underlying80 Tryd.underlying5 Tryd.underlying9 (Kd.own_of_R HO_6.out)
              go_wp2
              go_ret2
              exact ⟨er, bl HB⟩
def vellumlaw02_awake.f (k : Nat)  : Option (Bool) := (code_Encode.f k (([(⟨2, 1, 0, (⟨#[]⟩ : ByteArray)⟩ : S50)] : List (S50)))).bind fun bt286 => (if bt286.2 = 0 then (some (bt286.1.toList == ([3, 129, 1] : List UInt8))) else (some false))
set_option maxHeartbeats 8000000 in
set_option maxRecDepth 100000 in
theorem vellumlaw02_awake.calls (k : Nat)  (r : Bool) (w : World) (hG : Glob w) (h : vellumlaw02_awake.f k  = some r) :
    Calls Tryd.prog 23 #[] w fun e w' => e = .returned (.bool r) ∧ Below w.heap.size w w' := by
  have hu50 := Tryd.underlying50
  have HG := am hG
  clear hG
  have HB := am (Below.refl w.heap.size w)
  have H : ((code_Encode.f k (([(⟨2, 1, 0, (⟨#[]⟩ : ByteArray)⟩ : S50)] : List (S50)))).bind fun bt286 => (if bt286.2 = 0 then (some (bt286.1.toList == ([3, 129, 1] : List UInt8))) else (some false))) = some r := h
  clear h
  obtain ⟨y283, hy283⟩ : ∃ y_ : List (S50), y_ = (([(⟨2, 1, 0, (⟨#[]⟩ : ByteArray)⟩ : S50)] : List (S50))) := ⟨_, rfl⟩
  replace H : ((code_Encode.f k y283).bind fun bt286 => (if bt286.2 = 0 then (some (bt286.1.toList == ([3, 129, 1] : List UInt8))) else (some false))) = some r := by first | (rw [hy283]; with_reducible exact H) | (have H2_ := (Option.bind_some _ _).symm.trans H; rw [hy283]; with_reducible exact H2_) | (have H2_ := (Option.bind_some _ _).symm.trans H; with_reducible exact H2_) | with_reducible exact H | (rw [hy283]; exact H) | exact H
  have Ny283 := am hy283
  clear hy283
  replace H := Option.bind_eq_some_iff.mp H
  obtain ⟨⟨t286, t287⟩, A10, H⟩ := H
  replace H : (if t287 = 0 then (some (t286.toList == ([3, 129, 1] : List UInt8))) else (some false)) = some r := H
  have A1 := am A10
  clear A10
  by_cases c2 : t287 = 0
  · rw [if_pos c2] at H
    have c2b0 : (t287 == 0) = true := beq_iff_eq.mpr c2
    have c2b1 : (t287 != 0) = false := bne_eq_false_iff_eq.mpr c2
    clear c2
    obtain rfl := Option.some.inj H
    go_enter Tryd.func23, Tryd.ntmps23
    go_wp2_with (first | ((with_reducible refine gate_dst (N := 5) rfl ?_); refine Kd.R_lit k50 _ 50 ?hg (N := 5) ?hd (xs := ([(⟨2, 1, 0, (⟨#[]⟩ : ByteArray)⟩ : S50)] : List (S50))) (inner := [.int .i64 2, .int .i64 1, .float .f64 0, .string (⟨#[]⟩ : ByteArray)]) (ok := fun _ => True) (okp := fun _ => True) ?hr ?hp (fun _ hk => hk) trivial (Below.refl _ _) (Nat.le_refl _) (by simp) ?_; (case hd => rfl); (case hg => rfl); (case hr => first | (go_simp; done) | (go_simp; rfl)); (case hp => exact (Reps.c4 (show Kd.M k50 _ _ _ (⟨2, 1, 0, (⟨#[]⟩ : ByteArray)⟩ : S50) [.int .i64 2, .int .i64 1, .float .f64 0, .string (⟨#[]⟩ : ByteArray)] from (k50_mkM _ _ _ (⟨2, 1, 0, (⟨#[]⟩ : ByteArray)⟩ : S50) )) (Reps.none _ _))); intro v284 w3 ho4 hb hg_ hnew_; clear hg_ hnew_; (first | rw [← Ny283.out] at ho4 | (simp only [Int.reduceToNat] at ho4; rw [← Ny283.out] at ho4)); have n0_ := am (Kd.R_lower ho4 (below_size (bl HB))); have n1_ := sb HB hb; clear HB; have HO285 := n0_; have HB := n1_; clear n0_ n1_; clear hb ho4; obtain ⟨Ao5, co5, eo5⟩ := Kd.R_slice HO285.out; subst eo5) | ((with_reducible refine gate_callee (f := 21) rfl ?_); refine goesL_ (some 6) rfl rfl Tryd.func21 (by kernel_rfl) rfl #[.slice Ao5 y283.length co5] rfl ar ?_; (with_reducible refine (code_Encode.calls k _ _ y283 t286 t287 _ ?side1 ?side2 (Glob.below HG.out (bl HB)) A1.out).mono ?_); (case side1 => repeat (first | exact (Kd.R_reads' HO285.out).2.2 | (with_reducible refine Kd.C_alloc ?_ _) | (with_reducible refine Kd.C_drewN ?_ _) | (with_reducible refine Kd.C_drew ?_))); (case side2 => exact (Kd.R_reads' HO285.out).2.1); rintro e w6 ⟨rfl, hb⟩; refine ⟨_, rfl, ?_⟩; have n0_ := am (Kd.R_below (Kd.rr HO285.out) hb); have n1_ := sb HB hb; clear HO285; clear HB; have HO285 := n0_; have HB := n1_; clear n0_ n1_; (try clear hb); (try clear hb2 hk hi)))
    go_ret
    exact ⟨er, bl HB⟩
  · rw [if_neg c2] at H
    have c2b0 : (t287 == 0) = false := beq_eq_false_iff_ne.mpr c2
    have c2b1 : (t287 != 0) = true := bne_iff_ne.mpr c2
    obtain rfl := Option.some.inj H
    go_enter Tryd.func23, Tryd.ntmps23
    go_wp2_with (first | ((with_reducible refine gate_dst (N := 5) rfl ?_); refine Kd.R_lit k50 _ 50 ?hg (N := 5) ?hd (xs := ([(⟨2, 1, 0, (⟨#[]⟩ : ByteArray)⟩ : S50)] : List (S50))) (inner := [.int .i64 2, .int .i64 1, .float .f64 0, .string (⟨#[]⟩ : ByteArray)]) (ok := fun _ => True) (okp := fun _ => True) ?hr ?hp (fun _ hk => hk) trivial (Below.refl _ _) (Nat.le_refl _) (by simp) ?_; (case hd => rfl); (case hg => rfl); (case hr => first | (go_simp; done) | (go_simp; rfl)); (case hp => exact (Reps.c4 (show Kd.M k50 _ _ _ (⟨2, 1, 0, (⟨#[]⟩ : ByteArray)⟩ : S50) [.int .i64 2, .int .i64 1, .float .f64 0, .string (⟨#[]⟩ : ByteArray)] from (k50_mkM _ _ _ (⟨2, 1, 0, (⟨#[]⟩ : ByteArray)⟩ : S50) )) (Reps.none _ _))); intro v284 w7 ho8 hb hg_ hnew_; clear hg_ hnew_; (first | rw [← Ny283.out] at ho8 | (simp only [Int.reduceToNat] at ho8; rw [← Ny283.out] at ho8)); have n0_ := am (Kd.R_lower ho8 (below_size (bl HB))); have n1_ := sb HB hb; clear HB; have HO285 := n0_; have HB := n1_; clear n0_ n1_; clear hb ho8; obtain ⟨Ao9, co9, eo9⟩ := Kd.R_slice HO285.out; subst eo9) | ((with_reducible refine gate_callee (f := 21) rfl ?_); refine goesL_ (some 6) rfl rfl Tryd.func21 (by kernel_rfl) rfl #[.slice Ao9 y283.length co9] rfl ar ?_; (with_reducible refine (code_Encode.calls k _ _ y283 t286 t287 _ ?side1 ?side2 (Glob.below HG.out (bl HB)) A1.out).mono ?_); (case side1 => repeat (first | exact (Kd.R_reads' HO285.out).2.2 | (with_reducible refine Kd.C_alloc ?_ _) | (with_reducible refine Kd.C_drewN ?_ _) | (with_reducible refine Kd.C_drew ?_))); (case side2 => exact (Kd.R_reads' HO285.out).2.1); rintro e w10 ⟨rfl, hb⟩; refine ⟨_, rfl, ?_⟩; have n0_ := am (Kd.R_below (Kd.rr HO285.out) hb); have n1_ := sb HB hb; clear HO285; clear HB; have HO285 := n0_; have HB := n1_; clear n0_ n1_; (try clear hb); (try clear hb2 hk hi)))
    go_ret
    exact ⟨er, bl HB⟩
end Go.Proofs.YtpiifdbicibelaaDoor.PA
end
section
namespace Go.Proofs.YtpiifdbicibelaaDoor.Pure
open Go.RowKit Go.Proofs Go.Proofs.YtpiifdbicibelaaDoorW.PrintWords Go.Proofs.YtpiifdbicibelaaDoorW.PrintLast Go.Proofs.YtpiifdbicibelaaDoorW.PrintMore Go.Proofs.YtpiifdbicibelaaDoor.PA Go.Proofs.YtpiifdbicibelaaDoor.OpenK
set_option linter.unusedVariables false
/-- From some number of rounds on, f answers v. -/
def Ev {α : Type} (f : Nat → Option α) (v : α) : Prop := ∃ k0, ∀ k, k0 ≤ k → f k = some v
namespace Ev
variable {α β : Type} {f g : Nat → Option α} {v : α}
theorem pure {v : α} : Ev (fun _ => some v) v := ⟨0, fun _ _ => rfl⟩
theorem const {o : Option α} (h : o = some v) : Ev (fun _ => o) v := ⟨0, fun _ _ => h⟩
theorem bind {F : Nat → α → Option β} {b : β} (h : Ev f v) (h2 : Ev (fun k => F k v) b) : Ev (fun k => (f k).bind (F k)) b := by
  obtain ⟨k0, h⟩ := h
  obtain ⟨k1, h2⟩ := h2
  exact ⟨max k0 k1, fun k hk => by show (f k).bind (F k) = some b; rw [h k (by omega)]; exact h2 k (by omega)⟩
theorem step (h : ∀ k, f (k + 1) = g k) (hg : Ev g v) : Ev f v := by
  obtain ⟨k0, hg⟩ := hg
  refine ⟨k0 + 1, fun k hk => ?_⟩
  obtain ⟨j, rfl⟩ : ∃ j, k = j + 1 := ⟨k - 1, by omega⟩
  rw [h]; exact hg j (by omega)
theorem from_ (n : Nat) (h : ∀ k, f (k + n) = some v) : Ev f v := ⟨n, fun k hk => by have := h (k - n); rwa [Nat.sub_add_cancel hk] at this⟩
theorem congr (h : ∀ k, f k = g k) (hg : Ev g v) : Ev f v := by obtain ⟨k0, hg⟩ := hg; exact ⟨k0, fun k hk => by rw [h]; exact hg k hk⟩
theorem pos {c : Prop} [Decidable c] (hc : c) (h : Ev f v) : Ev (fun k => if c then f k else g k) v := congr (fun k => if_pos hc) h
theorem neg {c : Prop} [Decidable c] (hc : ¬ c) (h : Ev g v) : Ev (fun k => if c then f k else g k) v := congr (fun k => if_neg hc) h
theorem ex (h : Ev f v) : ∃ k, f k = some v := by obtain ⟨k0, h⟩ := h; exact ⟨k0, h k0 (Nat.le_refl _)⟩
end Ev
theorem wrap64_id {n : Int} (h0 : -9223372036854775808 ≤ n) (h1 : n < 9223372036854775808) : wrap64 n = n := by unfold wrap64; omega
theorem u64_wrap (n : Int) : IntKind.u64.wrap n = n % 18446744073709551616 := by
  simp [IntKind.wrap, IntKind.signed, IntKind.bits]
theorem u64_wrap_id {n : Int} (h0 : 0 ≤ n) (h1 : n < 18446744073709551616) : IntKind.u64.wrap n = n := by rw [u64_wrap]; omega
def be (u : Int) : Nat → List Int
  | 0 => []
  | n + 1 => (u / 256 ^ n) % 256 :: be u n
/-- How many bytes a number has. -/
def nb (u : Nat) : Nat := if h : u = 0 then 0 else 1 + nb (u / 256)
decreasing_by omega
theorem nb_le (n : Nat) : ∀ u, u < 256 ^ n → nb u ≤ n := by
  induction n with
  | zero => intro u h; simp at h; subst h; unfold nb; simp
  | succ n ih =>
    intro u h
    unfold nb
    split
    · omega
    · have := ih (u / 256) (by rw [Nat.pow_succ] at h; omega)
      omega
theorem pow256 : ∀ n : Nat, (2 : Int) ^ (8 * n) = 256 ^ n
  | 0 => rfl
  | n + 1 => by rw [Nat.mul_add, Int.pow_add, pow256 n]; rfl
theorem shr_be {u : Int} {n : Nat} (hn : n < 8) : (shr .u64 u (8 * (n : Int))) = u / 256 ^ n := by
  unfold shr
  have e : min (8 * (n : Int)).toNat IntKind.u64.bits = 8 * n := by
    have : IntKind.u64.bits = 64 := rfl
    omega
  rw [e, pow256]
theorem high_l0 (u : Int) : ∀ (n : Nat) (l : List Int), n ≤ 8 → l.length + 8 < 140737488355328 → Ev (fun k => code_high.l0 k l u ((n : Int) - 1)) (l ++ be u n) := by
  have go : ∀ (n : Nat) (l : List Int), n ≤ 8 → l.length + n < 140737488355328 → Ev (fun k => code_high.l0 k l u ((n : Int) - 1)) (l ++ be u n) := by
    intro n
    induction n with
    | zero =>
      intro l _ _
      refine Ev.from_ 1 fun k => ?_
      simp [code_high.l0, be]
    | succ n ih =>
      intro l hn hl
      have e : ((n + 1 : Nat) : Int) - 1 = n := by omega
      rw [e]
      refine Ev.step (g := fun k => code_high.l0 k (l ++ [u / 256 ^ n % 256]) u ((n : Int) - 1)) (fun k => ?_) ?_
      · simp only [code_high.l0]
        rw [if_pos (by omega), wrap64_id (n := 8 * (n : Int)) (by omega) (by omega), if_pos (by omega), if_pos (by omega), shr_be (by omega), wrap64_id (by omega) (by omega)]
      · have := ih (l ++ [u / 256 ^ n % 256]) (by omega) (by simp; omega)
        simpa [be] using this
  exact fun n l hn hl => go n l hn (by omega)
theorem high_ev (u : Int) (n : Nat) (l : List Int) (hn : n ≤ 8) (hl : l.length + 8 < 140737488355328) : Ev (fun k => code_high.f k l u n) (l ++ be u n) := by
  refine Ev.congr (fun k => ?_) (high_l0 u n l hn hl)
  unfold code_high.f
  rw [wrap64_id (by omega) (by omega)]
theorem bitLen_nb (u : Nat) (hu : u < 18446744073709551616) : (Lib.bitLen u + 7) / 8 = nb u := by
  have aux : ∀ (m f u : Nat), u < 256 ^ m → 8 * m ≤ f → (Lib.bitLenAux f u + 7) / 8 = nb u := by
    intro m
    induction m with
    | zero =>
      intro f u h _
      obtain rfl : u = 0 := by simpa using h
      unfold nb
      cases f <;> simp [Lib.bitLenAux]
    | succ m ih =>
      intro f u h hf
      by_cases h0 : u = 0
      · subst h0
        unfold nb
        cases f <;> simp [Lib.bitLenAux]
      · rw [nb, dif_neg h0]
        have hlt : u / 256 < 256 ^ m := by rw [Nat.pow_succ] at h; omega
        obtain ⟨f, rfl⟩ : ∃ g, f = g + 8 := ⟨f - 8, by omega⟩
        have := ih f (u / 256) hlt (by omega)
        have z : ∀ g, Lib.bitLenAux g 0 = 0 := fun g => by cases g <;> simp [Lib.bitLenAux]
        have st : ∀ g x, x ≠ 0 → Lib.bitLenAux (g + 1) x = 1 + Lib.bitLenAux g (x / 2) := fun g x hx => by simp [Lib.bitLenAux, hx]
        by_cases h8 : u / 256 = 0
        · rw [h8, z] at this
          have hb : 1 ≤ Lib.bitLenAux (f + 8) u ∧ Lib.bitLenAux (f + 8) u ≤ 8 := by
            have step : ∀ (j g x : Nat), x < 2 ^ j → Lib.bitLenAux (g + j) x ≤ j := by
              intro j
              induction j with
              | zero => intro g x hx; obtain rfl : x = 0 := by simpa using hx
                        rw [z]; omega
              | succ j ihj =>
                intro g x hx
                by_cases hx0 : x = 0
                · subst hx0; rw [z]; omega
                · rw [← Nat.add_assoc, st _ _ hx0]
                  have := ihj g (x / 2) (by rw [Nat.pow_succ] at hx; omega)
                  omega
            refine ⟨?_, step 8 f u (by omega)⟩
            rw [st _ _ h0]; omega
          have hnb : nb (u / 256) = 0 := by rw [h8]; unfold nb; simp
          rw [hnb]
          omega
        · have e : Lib.bitLenAux (f + 8) u = 8 + Lib.bitLenAux f (u / 256) := by
            rw [st (f + 7) u h0, st (f + 6) (u / 2) (by omega), st (f + 5) (u / 2 / 2) (by omega), st (f + 4) (u / 2 / 2 / 2) (by omega), st (f + 3) (u / 2 / 2 / 2 / 2) (by omega),
              st (f + 2) (u / 2 / 2 / 2 / 2 / 2) (by omega), st (f + 1) (u / 2 / 2 / 2 / 2 / 2 / 2) (by omega), st f (u / 2 / 2 / 2 / 2 / 2 / 2 / 2) (by omega)]
            have : u / 2 / 2 / 2 / 2 / 2 / 2 / 2 / 2 = u / 256 := by omega
            rw [this]; omega
          rw [e]; omega
  exact aux 8 64 u (by simpa using hu) (by omega)
theorem size_code (u : Nat) (hu : u < 18446744073709551616) : code_size.f (u : Int) = some (nb u : Int) := by
  unfold code_size.f bits_Len64.f
  rw [if_pos (by omega)]
  have h64 : Lib.bitLen u ≤ 64 := by
    have := bitLen_nb u hu
    have := nb_le 8 u (by simpa using hu)
    omega
  simp only [Option.bind_some, Int.toNat_natCast]
  rw [wrap64_id (n := (Lib.bitLen u : Int) + 7) (by omega) (by omega)]
  have e : Int.tdiv ((Lib.bitLen u : Int) + 7) 8 = (nb u : Int) := by
    rw [← bitLen_nb u hu, Int.tdiv_eq_ediv_of_nonneg (by omega)]
    omega
  have := nb_le 8 u (by simpa using hu)
  rw [e, wrap64_id (by omega) (by omega)]
theorem not64_eq (x : Int) (h0 : 0 ≤ x) (h1 : x < 18446744073709551616) : not64 x = 18446744073709551615 - x := by
  have e : not64 x = IntKind.u64.wrap (((BitVec.ofInt 64 18446744073709551615) ^^^ (BitVec.ofInt 64 x)).toNat : Int) := rfl
  have e1 : BitVec.ofInt 64 18446744073709551615 = BitVec.allOnes 64 := by decide
  have e2 : (BitVec.allOnes 64 ^^^ BitVec.ofInt 64 x) = ~~~ (BitVec.ofInt 64 x) := BitVec.allOnes_xor
  rw [e, e1]
  rw [e2, BitVec.toNat_not, BitVec.toNat_ofInt, u64_wrap]
  have : x % ((2 ^ 64 : Nat) : Int) = x := by omega
  rw [this]
  omega
theorem or_top (x : Int) (h0 : 0 ≤ x) (h1 : x < 9223372036854775808) : Go.bits .or .u64 x 9223372036854775808 = x + 9223372036854775808 := by
  have : Go.bits .or .u64 x 9223372036854775808 = IntKind.u64.wrap (((BitVec.ofInt 64 x) ||| (BitVec.ofInt 64 9223372036854775808)).toNat : Int) := rfl
  rw [this, BitVec.toNat_or, BitVec.toNat_ofInt, BitVec.toNat_ofInt, u64_wrap]
  have e1 : (x % ((2 ^ 64 : Nat) : Int)).toNat = x.toNat := by omega
  have e2 : ((9223372036854775808 : Int) % ((2 ^ 64 : Nat) : Int)).toNat = 2 ^ 63 * 1 := by decide
  rw [e1, e2, Nat.or_comm, ← Nat.two_pow_add_eq_or_of_lt (by omega)]
  omega
def chk (a b : Int) (c : Nat) (d : ByteArray) : Int :=
  if a < 0 ∨ 5 < a ∨ (a = 1 ∧ b ≠ 0 ∧ b ≠ 1) ∨ (a ≠ 1 ∧ a ≠ 2 ∧ b ≠ 0) ∨ (a ≠ 3 ∧ c ≠ 0) ∨ (a ≠ 4 ∧ a ≠ 5 ∧ d.toList ≠ []) ∨ (a = 4 ∧ Lib.validD d.data.toList = false) then 10
  else if (d.size : Int) > 65536 then 3 else 0
theorem nat_int_zero (c : Nat) : (((c : Nat) : Int) != 0) = decide (c ≠ 0) := by
  by_cases h : c = 0 <;> simp [h]
theorem valid_f (d : ByteArray) (h : d.size ≤ 140737488351232) : utf8_ValidString.f d = some (Lib.validD d.data.toList) := by
  unfold utf8_ValidString.f; rw [if_pos (by omega)]
theorem check_code (k : Nat) (a b : Int) (c : Nat) (d : ByteArray) (h : d.size ≤ 140737488351232) : value_Check.f (k + 6) a b c d = some (chk a b c d) := by
  have hc := nat_int_zero c
  have hv := valid_f d h
  unfold value_Check.f chk
  simp only [value_Check.j0, value_Check.j1, value_Check.j2, value_Check.j3, value_Check.j4, value_Check.j5, hv, hc, Option.bind_some]
  by_cases h1 : a < 0 <;> by_cases h2 : 5 < a <;> by_cases h3 : a = 1 <;> by_cases h4 : a = 2 <;> by_cases h5 : a = 3 <;> by_cases h6 : a = 4 <;> by_cases h7 : a = 5 <;>
    first
    | (exfalso; omega)
    | (by_cases hb : b = 0 <;> by_cases hb1 : b = 1 <;> by_cases hc0 : c = 0 <;> by_cases hd : d.toList = [] <;> by_cases hV : Lib.validD d.data.toList = true <;> simp_all <;> (try (split <;> rfl)) <;> (try (obtain rfl : a = 0 := by omega) <;> simp <;> split <;> rfl))
/-- A whole number's code: a byte that tells sign and size, then the bytes. -/
def codeInt (n : Int) : List Int :=
  if 0 ≤ n then (128 + (nb n.toNat : Int)) :: be n (nb n.toNat)
  else (128 - (max (nb (-(n + 1)).toNat) 1 : Nat) : Int) :: be (18446744073709551615 - -(n + 1)) (max (nb (-(n + 1)).toNat) 1)
/-- A float's code: its bits, the order of the bits made the order of the numbers. -/
def codeBits (b : Nat) : List Int := if b < 9223372036854775808 then be ((b : Int) + 9223372036854775808) 8 else be (18446744073709551615 - (b : Int)) 8
/-- The float that stands for all that are the same to the order. -/
def plainF (b : Nat) : Nat := if feq b 0 = true then 0 else if feq b b = true then b else 9221120237041090560
/-- A text's code: each zero byte is followed by 255; a zero ends it. -/
def codeText : List UInt8 → List Int
  | [] => [0]
  | b :: l => if b = 0 then 0 :: 255 :: codeText l else (b.toNat : Int) :: codeText l
theorem codeText_length : ∀ l : List UInt8, (codeText l).length ≤ 2 * l.length + 1
  | [] => by simp [codeText]
  | b :: l => by
    have := codeText_length l
    simp only [codeText]
    split <;> simp <;> omega
theorem isInt_range {n : Int} (h : (Lit.int .i64 n).wf = true) : -9223372036854775808 ≤ n ∧ n ≤ 9223372036854775807 := by
  simpa [Lit.wf, IntKind.min, IntKind.max, IntKind.signed, IntKind.bits] using h
theorem putInt_ev (l : List Int) (n : Int) (hn : (Lit.int .i64 n).wf = true) (hl : l.length + 10 < 140737488355328) : Ev (fun k => code_putInt.f k l n) (l ++ codeInt n) := by
  obtain ⟨h0, h1⟩ := isInt_range hn
  unfold codeInt
  by_cases hp : 0 ≤ n
  · rw [if_pos hp]
    have hu : IntKind.u64.wrap n = ((n.toNat : Nat) : Int) := by rw [u64_wrap_id hp (by omega)]; omega
    have hnb := nb_le 8 n.toNat (by omega)
    have e2 : (wrap64 (128 + (nb n.toNat : Int))) % 256 = 128 + (nb n.toNat : Int) := by rw [wrap64_id (by omega) (by omega)]; omega
    have := high_ev (n.toNat : Int) (nb n.toNat) (l ++ [128 + (nb n.toNat : Int)]) hnb (by simp; omega)
    refine Ev.congr (g := fun k => (code_high.f k (l ++ [128 + (nb n.toNat : Int)]) (n.toNat : Int) (nb n.toNat : Int)).bind fun t => some t) (fun k => ?_) ?_
    · simp only [code_putInt.f]
      rw [if_pos hp, hu, size_code _ (by omega)]
      simp only [Option.bind_some]
      rw [if_pos (by omega), e2]
    · refine Ev.bind this ?_
      have e : ((n.toNat : Nat) : Int) = n := by omega
      rw [e]
      simpa using Ev.pure
  · rw [if_neg hp]
    have hw : wrap64 (-(wrap64 (n + 1))) = -(n + 1) := by rw [wrap64_id (n := n + 1) (by omega) (by omega), wrap64_id (by omega) (by omega)]
    have hu : IntKind.u64.wrap (wrap64 (-(wrap64 (n + 1)))) = (((-(n + 1)).toNat : Nat) : Int) := by rw [hw, u64_wrap_id (by omega) (by omega)]; omega
    have hnb := nb_le 8 (-(n + 1)).toNat (by omega)
    generalize hu' : (-(n + 1)).toNat = u at *
    have hmx : mx (nb u : Int) 1 = ((max (nb u) 1 : Nat) : Int) := by unfold mx; split <;> omega
    have e2 : (wrap64 (128 - ((max (nb u) 1 : Nat) : Int))) % 256 = 128 - ((max (nb u) 1 : Nat) : Int) := by rw [wrap64_id (by omega) (by omega)]; omega
    have := high_ev (18446744073709551615 - (u : Int)) (max (nb u) 1) (l ++ [128 - ((max (nb u) 1 : Nat) : Int)]) (by omega) (by simp; omega)
    refine Ev.congr (g := fun k => (code_high.f k (l ++ [128 - ((max (nb u) 1 : Nat) : Int)]) (18446744073709551615 - (u : Int)) ((max (nb u) 1 : Nat) : Int)).bind fun t => some t) (fun k => ?_) ?_
    · simp only [code_putInt.f]
      rw [if_neg (by omega), hu, size_code _ (by omega)]
      simp only [Option.bind_some]
      rw [if_pos (by omega), hmx, e2, not64_eq _ (by omega) (by omega)]
    · refine Ev.bind this ?_
      have e : ((u : Nat) : Int) = -(n + 1) := by omega
      rw [e]
      simpa using Ev.pure
end Go.Proofs.YtpiifdbicibelaaDoor.Pure
end
section
namespace Go.Proofs.YtpiifdbicibelaaDoor.PA
open Go.RowKit Go.Proofs.YtpiifdbicibelaaDoorW.PrintWords Go.Proofs.YtpiifdbicibelaaDoorW.PrintLast Go.Proofs.YtpiifdbicibelaaDoorW.PrintMore
attribute [local go_sem] max2_int min2_int max_two min_two max_three min_three max_four min_four
set_option linter.unusedVariables false
set_option linter.unusedSimpArgs false
end Go.Proofs.YtpiifdbicibelaaDoor.PA
end
section
namespace Go.Proofs.YtpiifdbicibelaaDoor.PA
open Go.RowKit Go.Proofs Go.Proofs.YtpiifdbicibelaaDoorW.PrintWords Go.Proofs.YtpiifdbicibelaaDoorW.PrintLast Go.Proofs.YtpiifdbicibelaaDoorW.PrintMore Go.Proofs.YtpiifdbicibelaaDoor.Pure
set_option linter.unusedVariables false
set_option linter.unusedSimpArgs false
def idxF {α : Type} (p : α → Bool) (xs : List α) : Int := if xs.any p then (xs.findIdx p : Int) else -1
theorem any_take {α : Type} {p : α → Bool} {xs : List α} {k : Nat} {y : α} (hy : xs[k]? = some y) (h : ∀ x ∈ xs.take k, p x = false) (hp : p y = true) : idxF p xs = (k : Int) := by
  have hk : k < xs.length := (List.getElem?_eq_some_iff.1 hy).1
  have hyk : xs[k] = y := (List.getElem?_eq_some_iff.1 hy).2
  unfold idxF
  rw [if_pos (List.any_eq_true.2 ⟨y, List.mem_of_getElem? hy, hp⟩)]
  congr 1
  rw [List.findIdx_eq hk]
  refine ⟨by rw [hyk]; exact hp, fun j hj => ?_⟩
  have := h xs[j] (List.mem_take_iff_getElem.2 ⟨j, by omega, rfl⟩)
  simpa using this
theorem any_none {α : Type} {p : α → Bool} {xs : List α} (h : ∀ x ∈ xs.take xs.length, p x = false) : idxF p xs = -1 := by
  unfold idxF
  rw [if_neg]
  rw [List.any_eq_true]
  rintro ⟨x, hx, hp⟩
  rw [h x (by simpa using hx)] at hp
  cases hp
theorem take_step {α : Type} {p : α → Bool} {xs : List α} {k : Nat} {y : α} (hy : xs[k]? = some y) (h : ∀ x ∈ xs.take k, p x = false) (hp : p y = false) : ∀ x ∈ xs.take (k + 1), p x = false := by
  intro x hx
  rw [List.take_add_one, hy] at hx
  rcases List.mem_append.1 hx with h1 | h1
  · exact h x h1
  · simp at h1; subst h1; exact hp
end Go.Proofs.YtpiifdbicibelaaDoor.PA
end
section
namespace Go.Proofs.YtpiifdbicibelaaDoor.PA
open Go.RowKit Go.Proofs.YtpiifdbicibelaaDoorW.PrintWords Go.Proofs.YtpiifdbicibelaaDoorW.PrintLast Go.Proofs.YtpiifdbicibelaaDoorW.PrintMore
attribute [local go_sem] max2_int min2_int max_two min_two max_three min_three max_four min_four
set_option linter.unusedVariables false
set_option linter.unusedSimpArgs false
end Go.Proofs.YtpiifdbicibelaaDoor.PA
end
section
namespace Go.Proofs.YtpiifdbicibelaaDoorW.PrintWords
open Go.RowKit Go.Proofs
set_option linter.unusedVariables false
set_option linter.unusedSimpArgs false
/-- A text off the begin of some bytes: a zero with 255 behind it is a zero; a zero alone ends it. -/
def textOff : List UInt8 → List UInt8 → Option (List UInt8 × List UInt8)
  | _, [] => none
  | acc, 0 :: 255 :: l => textOff (acc ++ [0]) l
  | acc, 0 :: l => some (acc, l)
  | acc, b :: l => textOff (acc ++ [b]) l
end Go.Proofs.YtpiifdbicibelaaDoorW.PrintWords
end
section
namespace Go.Proofs.YtpiifdbicibelaaDoor.PA
open Go.RowKit Go.Proofs.YtpiifdbicibelaaDoorW.PrintWords Go.Proofs.YtpiifdbicibelaaDoorW.PrintLast Go.Proofs.YtpiifdbicibelaaDoorW.PrintMore
attribute [local go_sem] max2_int min2_int max_two min_two max_three min_three max_four min_four
set_option linter.unusedVariables false
set_option linter.unusedSimpArgs false
end Go.Proofs.YtpiifdbicibelaaDoor.PA
end
section
namespace Go.Proofs.YtpiifdbicibelaaDoor.Pure
open Go.RowKit Go.Proofs Go.Proofs.YtpiifdbicibelaaDoorW.PrintWords Go.Proofs.YtpiifdbicibelaaDoorW.PrintLast Go.Proofs.YtpiifdbicibelaaDoorW.PrintMore Go.Proofs.YtpiifdbicibelaaDoor.PA Go.Proofs.YtpiifdbicibelaaDoor.OpenK
set_option linter.unusedVariables false
theorem feq_zero : feq 0 0 = true := by decide +kernel
theorem plain_ev (k : Nat) (a b : Int) (c : Nat) (d : ByteArray) : value_Plain.f (k + 1) a b c d = some (a, b, if a = 3 then plainF c else c, d) := by
  unfold value_Plain.f plainF
  by_cases h : a = 3
  · simp only [h, if_true, value_Plain.j0, math_IsNaN.f, Option.bind_some, feq_zero]
    by_cases h0 : feq c 0 = true
    · simp [h0]
    · by_cases h1 : feq c c = true <;> simp [h0, h1]
  · simp [h]
theorem plainF_lt {c : Nat} (h : c < 18446744073709551616) : plainF c < 18446744073709551616 := by
  unfold plainF; split
  · omega
  · split <;> omega
theorem putFloat_ev (l : List Int) (b : Nat) (hb : b < 18446744073709551616) (hl : l.length + 10 < 140737488355328) : Ev (fun k => code_putFloat.f k l b) (l ++ codeBits b) := by
  simp only [code_putFloat.f, codeBits]
  by_cases h : b < 9223372036854775808
  · rw [if_pos h]
    refine Ev.pos (by omega) ?_
    rw [or_top _ (by omega) (by omega)]
    exact Ev.bind (high_ev _ 8 l (by omega) (by omega)) Ev.pure
  · rw [if_neg h]
    refine Ev.neg (by omega) ?_
    rw [not64_eq _ (by omega) (by omega)]
    exact Ev.bind (high_ev _ 8 l (by omega) (by omega)) Ev.pure
theorem index_cons (b : UInt8) (l : List UInt8) : Lib.index (b :: l) [0] = if b = 0 then 0 else if Lib.index l [0] = -1 then -1 else Lib.index l [0] + 1 := by
  rw [Lib.index]
  by_cases h : b = 0
  · subst h; simp [List.isPrefixOf]
  · have : (0 : UInt8) ≠ b := fun e => h e.symm
    simp [List.isPrefixOf, h, this]
def zeroed (l : List UInt8) : List UInt8 := l.flatMap fun b => if b = 0 then [0, 255] else [b]
theorem replaceK_zero : ∀ (l : List UInt8) (k : Nat), l.count 0 ≤ k → Lib.replaceK [0] [0, 255] k l = zeroed l
  | [], k, _ => by
    cases k with
    | zero => rfl
    | succ k => simp [Lib.replaceK, Lib.index, zeroed]
  | b :: l, k, hk => by
    by_cases h : b = 0
    · subst h
      simp only [List.count_cons_self] at hk
      obtain ⟨k, rfl⟩ : ∃ j, k = j + 1 := ⟨k - 1, by omega⟩
      have ih := replaceK_zero l k (by omega)
      simp [Lib.replaceK, index_cons, zeroed, ih]
    · rw [List.count_cons_of_ne (by simpa using h)] at hk
      have ih := replaceK_zero l k hk
      have key : Lib.replaceK [0] [0, 255] k (b :: l) = b :: Lib.replaceK [0] [0, 255] k l := by
        cases k with
        | zero => rfl
        | succ k =>
          have hge := Lib.index_ge l [0]
          simp only [Lib.replaceK, index_cons, if_neg h]
          by_cases hm : Lib.index l [0] = -1
          · simp [hm]
          · have e1 : (Lib.index l [0] + 1).toNat = (Lib.index l [0]).toNat + 1 := by omega
            have e2 : ¬ (Lib.index l [0] + 1 = -1) := by omega
            simp [hm, e1, e2]
      rw [key, ih]
      simp [zeroed, h]
theorem replaceAll_zero (s : List UInt8) : Lib.replaceAll s [0] [0, 255] = zeroed s := by
  unfold Lib.replaceAll Lib.replace Lib.replaceNum
  rw [if_neg (by decide), if_pos (by omega)]
  exact replaceK_zero s _ (by rw [Lib.count_one]; exact Nat.le_refl _)
theorem codeText_zeroed : ∀ l : List UInt8, codeText l = (zeroed l).map (fun b => (b.toNat : Int)) ++ [0]
  | [] => rfl
  | b :: l => by
    have := codeText_zeroed l
    unfold codeText
    by_cases h : b = 0
    · subst h
      simp [zeroed] at this ⊢
      exact this
    · simp [zeroed, h] at this ⊢
      exact this
theorem zeroed_length (l : List UInt8) : (zeroed l).length ≤ 2 * l.length := by
  have h1 := codeText_length l
  have h2 := congrArg List.length (codeText_zeroed l)
  simp at h2
  omega
theorem putString_f (l : List Int) (s : ByteArray) (hs : s.size ≤ 65536) (hl : l.length + 140000 < 140737488355328) : code_putString.f l s = some (l ++ codeText s.data.toList) := by
  have hc := Lib.countB_le (⟨#[0]⟩ : ByteArray) (by decide) s.size s (Nat.le_refl _)
  have hr : strings_ReplaceAll.f s (⟨#[0]⟩ : ByteArray) (⟨#[0, 255]⟩ : ByteArray) = some ⟨(zeroed s.data.toList).toArray⟩ := by
    unfold strings_ReplaceAll.f
    have e2 : (⟨#[0, 255]⟩ : ByteArray).size = 2 := rfl
    have e1 : (⟨#[0]⟩ : ByteArray).size = 1 := rfl
    rw [if_pos ⟨by omega, by rw [e1]; omega, by rw [e2]; omega⟩, replaceAll_zero]
  have hz := zeroed_length s.data.toList
  rw [data_length] at hz
  have hsz : (⟨(zeroed s.data.toList).toArray⟩ : ByteArray).size = (zeroed s.data.toList).length := by
    show (zeroed s.data.toList).toArray.size = _
    simp
  have hbl := bytesOf_length ⟨(zeroed s.data.toList).toArray⟩
  unfold code_putString.f
  rw [hr]
  simp only [Option.bind_some]
  rw [if_pos (by omega), if_pos (by simp; omega), codeText_zeroed]
  simp [bytesOf]
def codeV (a b : Int) (c : Nat) (d : ByteArray) : List Int :=
  if a = 1 then [2, b % 256] else if a = 2 then 3 :: codeInt b else if a = 3 then 4 :: codeBits (plainF c) else if a = 4 then 5 :: codeText d.data.toList else if a = 5 then 6 :: codeText d.data.toList else [1]
theorem put_ev (l : List Int) (a b : Int) (c : Nat) (d : ByteArray) (hb : (Lit.int .i64 b).wf = true) (hc : c < 18446744073709551616) (hd : d.size ≤ 65536) (hl : l.length + 200000 < 140737488355328) :
    Ev (fun k => code_put.f k l a b c d) (l ++ codeV a b c d) := by
  simp only [code_put.f, codeV, Option.bind_some]
  by_cases h1 : a = 1
  · rw [if_pos h1]
    exact Ev.pos h1 (Ev.pos (by simp; omega) Ev.pure)
  rw [if_neg h1]
  refine Ev.neg h1 ?_
  by_cases h2 : a = 2
  · rw [if_pos h2]
    refine Ev.pos h2 (Ev.pos (by omega) (Ev.bind (putInt_ev (l ++ [3]) b hb (by simp; omega)) ?_))
    simpa using Ev.pure
  rw [if_neg h2]
  refine Ev.neg h2 ?_
  by_cases h3 : a = 3
  · rw [if_pos h3]
    refine Ev.pos h3 (Ev.pos (by omega) (Ev.bind (v := (a, b, plainF c, d)) (Ev.from_ 1 fun k => by rw [plain_ev, if_pos h3]) (Ev.bind (putFloat_ev (l ++ [4]) (plainF c) (plainF_lt hc) (by simp; omega)) ?_)))
    simpa using Ev.pure
  rw [if_neg h3]
  refine Ev.neg h3 ?_
  by_cases h4 : a = 4
  · rw [if_pos h4, if_pos h4]
    refine Ev.pos (by omega) (Ev.const ?_)
    rw [putString_f _ d hd (by simp; omega)]
    simp
  rw [if_neg h4, if_neg h4]
  by_cases h5 : a = 5
  · rw [if_pos h5, if_pos h5]
    refine Ev.pos (by omega) (Ev.const ?_)
    rw [putString_f _ d hd (by simp; omega)]
    simp
  rw [if_neg h5, if_neg h5]
  exact Ev.pos (by omega) Ev.pure
/-- What a list of values is coded as_: its bytes and the outcome. -/
def chkV (x : S50) : Int := chk x.f0 x.f1 x.f2 x.f3
def codeOf (x : S50) : List Int := codeV x.f0 x.f1 x.f2 x.f3
/-- The code so far, or 'too long'. -/
def build : List Int → List S50 → Option (List Int)
  | acc, [] => some acc
  | acc, x :: xs => if 1024 < (acc ++ codeOf x).length then none else build (acc ++ codeOf x) xs
def encode (xs : List S50) : ByteArray × Int :=
  if xs.all (fun x => chkV x == 0) then (match build [] xs with | none => (⟨#[]⟩, 3) | some l => (strOfNums l, 0)) else (⟨#[]⟩, 10)
theorem rd_get (l : List S50) (i : Nat) (x : S50) (h : l[i]? = some x) : rd_T50 l (i : Int) = x := by
  unfold rd_T50
  simp [List.getD, h]
theorem chk_ok {a b : Int} {c : Nat} {d : ByteArray} (h : chk a b c d = 0) : (0 ≤ a ∧ a ≤ 5) ∧ d.size ≤ 65536 := by
  unfold chk at h
  split at h
  · cases h
  · rename_i h1
    split at h
    · cases h
    · rename_i h2
      have : ¬ a < 0 := fun x => h1 (Or.inl x)
      have : ¬ 5 < a := fun x => h1 (Or.inr (Or.inl x))
      constructor
      · omega
      · omega
theorem encode_code (xs : List S50) (hw : ∀ x ∈ xs, wf50 x) (hl : xs.length < 9223372036854775807) : Ev (fun k => code_Encode.f k xs) (encode xs) := by
  have build_ev : ∀ (m i : Nat) (acc : List Int), i + m = xs.length → acc.length ≤ 1024 → (∀ x ∈ xs, chkV x = 0) →
      Ev (fun k => code_Encode.l1 k acc xs (xs.length : Int) (i : Int)) (match build acc (xs.drop i) with | none => (⟨#[]⟩, 3) | some l => (strOfNums l, 0)) := by
    intro m
    induction m with
    | zero =>
      intro i acc hi ha hc
      rw [List.drop_of_length_le (by omega)]
      refine Ev.from_ 1 fun k => ?_
      simp only [code_Encode.l1, build]
      rw [if_neg (by omega)]
    | succ m ih =>
      intro i acc hi ha hc
      have hlt : i < xs.length := by omega
      obtain ⟨x, hx⟩ : ∃ x, xs[i]? = some x := ⟨_, List.getElem?_eq_getElem hlt⟩
      have hmem : x ∈ xs := List.mem_of_getElem? hx
      have hd : xs.drop i = x :: xs.drop (i + 1) := by
        rw [List.drop_eq_getElem_cons hlt]
        congr 1
        exact Option.some.inj ((List.getElem?_eq_getElem hlt).symm.trans hx)
      have hok := chk_ok (hc x hmem)
      obtain ⟨w0, w1, w2, w3⟩ := hw x hmem
      refine Ev.step (g := fun k => (code_put.f k acc x.f0 x.f1 x.f2 x.f3).bind fun t181 => (if (t181.length : Int) > 1024 then (some ((⟨#[]⟩ : ByteArray), 3)) else (code_Encode.l1 k t181 xs (xs.length : Int) ((i + 1 : Nat) : Int)))) (fun k => ?_) ?_
      · simp only [code_Encode.l1]
        rw [if_pos (by omega), if_pos (by omega), if_pos (by omega), rd_get _ _ _ hx, wrap64_id (by omega) (by omega)]
        rfl
      · refine Ev.bind (put_ev acc _ _ _ _ w1 w2 hok.2 (by omega)) ?_
        rw [hd]
        by_cases hlen : 1024 < (acc ++ codeOf x).length
        · refine Ev.pos (by show ((acc ++ codeOf x).length : Int) > 1024; omega) ?_
          simp only [build]
          rw [if_pos hlen]
          exact Ev.pure
        · refine Ev.neg (by show ¬ ((acc ++ codeOf x).length : Int) > 1024; omega) ?_
          simp only [build]
          rw [if_neg hlen]
          exact ih (i + 1) (acc ++ codeOf x) (by omega) (by omega) hc
  have check_ev : ∀ (m i : Nat), i + m = xs.length → (∀ j x, j < i → xs[j]? = some x → chkV x = 0) → Ev (fun k => code_Encode.l0 k xs xs (xs.length : Int) (i : Int)) (encode xs) := by
    intro m
    induction m with
    | zero =>
      intro i hi hc
      have hall : ∀ x ∈ xs, chkV x = 0 := fun x hx => by
        obtain ⟨j, hj⟩ := List.getElem?_of_mem hx
        exact hc j x (by have := (List.getElem?_eq_some_iff.1 hj).1; omega) hj
      refine Ev.step (g := fun k => code_Encode.l1 k ([] : List Int) xs (xs.length : Int) ((0 : Nat) : Int)) (fun k => ?_) ?_
      · simp only [code_Encode.l0]
        rw [if_neg (by omega)]
        rfl
      · have := build_ev xs.length 0 [] (by omega) (by simp) hall
        have e : xs.all (fun x => chkV x == 0) = true := List.all_eq_true.2 fun x hx => by simp [hall x hx]
        unfold encode
        rw [if_pos e]
        simpa using this
    | succ m ih =>
      intro i hi hc
      have hlt : i < xs.length := by omega
      obtain ⟨x, hx⟩ : ∃ x, xs[i]? = some x := ⟨_, List.getElem?_eq_getElem hlt⟩
      have hmem : x ∈ xs := List.mem_of_getElem? hx
      obtain ⟨w0, w1, w2, w3⟩ := hw x hmem
      refine Ev.step (g := fun k => (value_Check.f k x.f0 x.f1 x.f2 x.f3).bind fun t178 => (if t178 = 0 then (code_Encode.l0 k xs xs (xs.length : Int) ((i + 1 : Nat) : Int)) else (some ((⟨#[]⟩ : ByteArray), 10)))) (fun k => ?_) ?_
      · simp only [code_Encode.l0]
        rw [if_pos (by omega), if_pos (by omega), if_pos (by omega), rd_get _ _ _ hx, wrap64_id (by omega) (by omega)]
        rfl
      · refine Ev.bind (Ev.from_ 6 fun k => check_code k _ _ _ _ w3) ?_
        by_cases h0 : chkV x = 0
        · refine Ev.pos h0 (ih (i + 1) (by omega) fun j y hj hy => ?_)
          rcases Nat.lt_or_ge j i with h | h
          · exact hc j y h hy
          · obtain rfl : j = i := by omega
            rw [hx] at hy; cases hy; exact h0
        · refine Ev.neg h0 ?_
          have e : ¬ xs.all (fun x => chkV x == 0) = true := fun h => h0 (by simpa using List.all_eq_true.1 h x hmem)
          unfold encode
          rw [if_neg e]
          exact Ev.pure
  have := check_ev xs.length 0 (by omega) (fun j x hj => by omega)
  simpa [code_Encode.f] using this
end Go.Proofs.YtpiifdbicibelaaDoor.Pure
end
section
namespace Go.Proofs.YtpiifdbicibelaaDoor.PA
open Go.RowKit Go.Proofs.YtpiifdbicibelaaDoorW.PrintWords Go.Proofs.YtpiifdbicibelaaDoorW.PrintLast Go.Proofs.YtpiifdbicibelaaDoorW.PrintMore
attribute [local go_sem] max2_int min2_int max_two min_two max_three min_three max_four min_four
set_option linter.unusedVariables false
set_option linter.unusedSimpArgs false
end Go.Proofs.YtpiifdbicibelaaDoor.PA
end
section
namespace Go.Proofs.YtpiifdbicibelaaDoor.Pure
open Go.RowKit Go.Proofs Go.Proofs.YtpiifdbicibelaaDoorW.PrintWords Go.Proofs.YtpiifdbicibelaaDoorW.PrintLast Go.Proofs.YtpiifdbicibelaaDoorW.PrintMore Go.Proofs.YtpiifdbicibelaaDoor.PA Go.Proofs.YtpiifdbicibelaaDoor.OpenK
set_option linter.unusedVariables false
/-- What may follow a text's code: nothing, or a byte below 255. -/
def Tail (r : List Int) : Prop := ∀ x l, r = x :: l → x < 255
/-- u's code is before v's, whatever follows. -/
def Bf (u v : List Int) : Prop := ∀ r s, Tail r → u ++ r < v ++ s
theorem Bf.cons {a : Int} {u v : List Int} (h : Bf u v) : Bf (a :: u) (a :: v) := fun r s hr => List.cons_lt_cons_iff.2 (Or.inr ⟨rfl, h r s hr⟩)
theorem Bf.head {a b : Int} {u v : List Int} (h : a < b) : Bf (a :: u) (b :: v) := fun r s hr => List.cons_lt_cons_iff.2 (Or.inl h)
/-- Three answers of a comparing, and what each says of the codes. -/
def Says (t : Int) (u v : List Int) : Prop := (t = -1 ∧ Bf u v) ∨ (t = 1 ∧ Bf v u) ∨ (t = 0 ∧ u = v)
theorem Says.cons {t a : Int} {u v : List Int} (h : Says t u v) : Says t (a :: u) (a :: v) := by
  rcases h with ⟨h1, h2⟩ | ⟨h1, h2⟩ | ⟨h1, h2⟩
  · exact Or.inl ⟨h1, h2.cons⟩
  · exact Or.inr (Or.inl ⟨h1, h2.cons⟩)
  · exact Or.inr (Or.inr ⟨h1, by rw [h2]⟩)
def Bytes (l : List Int) : Prop := ∀ x ∈ l, 0 ≤ x ∧ x ≤ 255
theorem Bytes.cons {a : Int} {l : List Int} (h : 0 ≤ a ∧ a ≤ 255) (hl : Bytes l) : Bytes (a :: l) := by
  intro x hx
  rcases List.mem_cons.1 hx with rfl | hx
  · exact h
  · exact hl x hx
def toB (l : List Int) : List UInt8 := l.map fun n => UInt8.ofNat n.toNat
end Go.Proofs.YtpiifdbicibelaaDoor.Pure
end
section
namespace Go.Proofs.YtpiifdbicibelaaDoor.Pure
open Go.RowKit Go.Proofs Go.Proofs.YtpiifdbicibelaaDoorW.PrintWords Go.Proofs.YtpiifdbicibelaaDoorW.PrintLast Go.Proofs.YtpiifdbicibelaaDoorW.PrintMore Go.Proofs.YtpiifdbicibelaaDoor.PA Go.Proofs.YtpiifdbicibelaaDoor.OpenK
set_option linter.unusedVariables false
set_option linter.unusedSimpArgs false
theorem Bytes.drop {L : List Int} (h : Bytes L) (i : Nat) : Bytes (L.drop i) := fun x hx => h x (List.mem_of_mem_drop hx)
theorem Bytes.take {L : List Int} (h : Bytes L) (i : Nat) : Bytes (L.take i) := fun x hx => h x (List.mem_of_mem_take hx)
theorem Bytes.tail {a : Int} {L : List Int} (h : Bytes (a :: L)) : Bytes L := fun x hx => h x (by simp [hx])
def num : List Int → Int
  | [] => 0
  | x :: L => x * 256 ^ L.length + num L
/-- What stands behind an int's tag: the number that the bytes tell, whether it is below 0, and how many bytes. -/
def rawInt : List Int → Option (Int × Bool × Nat)
  | [] => none
  | h :: M => if 8 < (h - 128).natAbs ∨ M.length < (h - 128).natAbs then none
    else some (if h < 128 then 256 ^ (h - 128).natAbs - 1 - num (M.take (h - 128).natAbs) else num (M.take (h - 128).natAbs), decide (h < 128), (h - 128).natAbs)
def intOfRaw (m : Int) (b : Bool) : Int := if b then -m - 1 else m
end Go.Proofs.YtpiifdbicibelaaDoor.Pure
end
section
namespace Go.Proofs.YtpiifdbicibelaaDoor.PA
open Go.RowKit Go.Proofs.YtpiifdbicibelaaDoorW.PrintWords Go.Proofs.YtpiifdbicibelaaDoorW.PrintLast Go.Proofs.YtpiifdbicibelaaDoorW.PrintMore
attribute [local go_sem] max2_int min2_int max_two min_two max_three min_three max_four min_four
set_option linter.unusedVariables false
set_option linter.unusedSimpArgs false
end Go.Proofs.YtpiifdbicibelaaDoor.PA
end
section
namespace Go.Proofs.YtpiifdbicibelaaDoor.Pure
open Go.RowKit Go.Proofs Go.Proofs.YtpiifdbicibelaaDoorW.PrintWords Go.Proofs.YtpiifdbicibelaaDoorW.PrintLast Go.Proofs.YtpiifdbicibelaaDoorW.PrintMore Go.Proofs.YtpiifdbicibelaaDoor.PA Go.Proofs.YtpiifdbicibelaaDoor.OpenK
set_option linter.unusedVariables false
set_option linter.unusedSimpArgs false
def vb (n : Nat) : List Int := if h : 128 ≤ n then ((n % 128 + 128 : Nat) : Int) :: vb (n / 128) else [(n : Int)]
decreasing_by omega
theorem bytesOf_length (s : ByteArray) : (bytesOf s).length = s.size := by simp [bytesOf]
def cA : S105 := ⟨(⟨#[97]⟩ : ByteArray), 2, false, (⟨0, 0, 0, (⟨#[]⟩ : ByteArray)⟩ : S50)⟩
end Go.Proofs.YtpiifdbicibelaaDoor.Pure
end
section
namespace Go.Proofs.YtpiifdbicibelaaDoor.PA
open Go.RowKit Go.Proofs.YtpiifdbicibelaaDoorW.PrintWords Go.Proofs.YtpiifdbicibelaaDoorW.PrintLast Go.Proofs.YtpiifdbicibelaaDoorW.PrintMore
attribute [local go_sem] max2_int min2_int max_two min_two max_three min_three max_four min_four
set_option linter.unusedVariables false
set_option linter.unusedSimpArgs false
end Go.Proofs.YtpiifdbicibelaaDoor.PA
end
section
namespace Go.Proofs.YtpiifdbicibelaaDoor.Pure
open Go.RowKit Go.Proofs Go.Proofs.YtpiifdbicibelaaDoorW.PrintWords Go.Proofs.YtpiifdbicibelaaDoorW.PrintLast Go.Proofs.YtpiifdbicibelaaDoorW.PrintMore Go.Proofs.YtpiifdbicibelaaDoor.PA Go.Proofs.YtpiifdbicibelaaDoor.OpenK
set_option linter.unusedVariables false
set_option linter.unusedSimpArgs false
/-- The float that eight bytes tell. -/
def floatOf (w : List Int) : Nat := if 9223372036854775808 ≤ num w then (num w - 9223372036854775808).toNat else (18446744073709551615 - num w).toNat
abbrev G5 := Int × Int × Nat × ByteArray × Int
def bkInt (M : List Int) : G5 := match rawInt M with
  | none => (2, 0, 0, (⟨#[]⟩ : ByteArray), 0)
  | some (m, b, k) => if 9223372036854775808 ≤ m then (2, 0, 0, (⟨#[]⟩ : ByteArray), 0) else (2, intOfRaw m b, 0, (⟨#[]⟩ : ByteArray), ((2 + k : Nat) : Int))
def bkText (t : Int) (M : List Int) : G5 := match textOff [] (toB M) with
  | none => (t - 1, 0, 0, (⟨#[]⟩ : ByteArray), 0)
  | some (u, r) => (t - 1, 0, 0, ⟨u.toArray⟩, (1 + M.length : Int) - r.length)
/-- What the reference reads off the begin of a key, and how many bytes it has; 0: nothing. -/
def bk : List Int → G5
  | [] => (0, 0, 0, (⟨#[]⟩ : ByteArray), 0)
  | t :: M =>
    if t = 1 then (0, 0, 0, (⟨#[]⟩ : ByteArray), 1)
    else if t = 2 then (match M with | [] => (1, 0, 0, (⟨#[]⟩ : ByteArray), 0) | b :: _ => if b < 2 then (1, b, 0, (⟨#[]⟩ : ByteArray), 2) else (1, 0, 0, (⟨#[]⟩ : ByteArray), 0))
    else if t = 3 then bkInt M
    else if t = 4 then (if M.length < 8 then (3, 0, 0, (⟨#[]⟩ : ByteArray), 0) else (3, 0, floatOf (M.take 8), (⟨#[]⟩ : ByteArray), 9))
    else if t = 5 ∨ t = 6 then bkText t M
    else (t - 1, 0, 0, (⟨#[]⟩ : ByteArray), 0)
/-- The two bits of column i in a head. -/
def mk (h : List Int) (i : Nat) : Int := (h.getD (i / 4) 0 / 4 ^ (i % 4)) % 4
end Go.Proofs.YtpiifdbicibelaaDoor.Pure
end
section
namespace Go.Proofs.YtpiifdbicibelaaDoor.PA
open Go.RowKit Go.Proofs.YtpiifdbicibelaaDoorW.PrintWords Go.Proofs.YtpiifdbicibelaaDoorW.PrintLast Go.Proofs.YtpiifdbicibelaaDoorW.PrintMore
attribute [local go_sem] max2_int min2_int max_two min_two max_three min_three max_four min_four
set_option linter.unusedVariables false
set_option linter.unusedSimpArgs false
end Go.Proofs.YtpiifdbicibelaaDoor.PA
end
section
namespace Go.Proofs.YtpiifdbicibelaaDoor.Pure
open Go.RowKit Go.Proofs Go.Proofs.YtpiifdbicibelaaDoorW.PrintWords Go.Proofs.YtpiifdbicibelaaDoor.PA Go.Proofs.YtpiifdbicibelaaDoor.OpenK
set_option linter.unusedVariables false
theorem nb_1 : nb 1 = 1 := by unfold nb; simp; unfold nb; simp
theorem encode_one : encode [(⟨2, 1, 0, (⟨#[]⟩ : ByteArray)⟩ : S50)] = (⟨#[3, 129, 1]⟩, 0) := by
  have e : (⟨#[]⟩ : ByteArray).toList = [] := by decide +kernel
  have e2 : (⟨#[]⟩ : ByteArray).size = 0 := rfl
  simp [encode, e2, chkV, chk, build, codeOf, codeV, codeInt, nb_1, be, e, strOfNums]
theorem awake_ev : Ev (fun k => vellumlaw02_awake.f k) true := by
  simp only [vellumlaw02_awake.f]
  refine Ev.bind (encode_code _ ?_ (by simp)) ?_
  · intro x hx
    simp at hx
    subst hx
    exact ⟨by decide, by decide, by decide, by decide⟩
  · rw [encode_one]
    exact Ev.const (by decide +kernel)
end Go.Proofs.YtpiifdbicibelaaDoor.Pure
end
section
namespace Go.Proofs
open Go.Shelf
def Tryd.sortR_ren : Go.Shelf.Ren := ⟨fun | 6 => 79 | 15 => 117 | 14 => 116 | 28 => 155 | 29 => 156 | 20 => 147 | 21 => 148 | 22 => 149 | 23 => 150 | 24 => 151 | 25 => 152 | 26 => 153 | 27 => 154 | 46 => 177 | 47 => 178 | 48 => 179 | 49 => 180 | 50 => 181 | 57 => 191 | n => n, fun | 22 => 53 | 24 => 32 | 25 => 94 | 3 => 3 | 39 => 128 | 0 => 0 | 53 => 167 | 55 => 88 | 4 => 4 | 46 => 160 | 45 => 159 | 50 => 164 | 5 => 5 | 9 => 9 | 66 => 181 | 70 => 185 | 76 => 197 | 77 => 198 | n => n, fun | n => n⟩
theorem Tryd.sortR : Go.Proofs.SlLaysF0.n6 Tryd.prog Tryd.sortR_ren := {
  mixed := by kernel_rfl
  f6 := ⟨Tryd.f79.name, by decide, Tryd.func79.trans (congrArg some (by kernel_rfl))⟩
  f14 := ⟨Tryd.f116.name, by decide, Tryd.func116.trans (congrArg some (by kernel_rfl))⟩
  f15 := Tryd.func117.trans (congrArg some (by kernel_rfl))
  f20 := ⟨Tryd.f147.name, by decide, Tryd.func147.trans (congrArg some (by kernel_rfl))⟩
  f21 := ⟨Tryd.f148.name, by decide, Tryd.func148.trans (congrArg some (by kernel_rfl))⟩
  f22 := ⟨Tryd.f149.name, by decide, Tryd.func149.trans (congrArg some (by kernel_rfl))⟩
  f23 := ⟨Tryd.f150.name, by decide, Tryd.func150.trans (congrArg some (by kernel_rfl))⟩
  f24 := ⟨Tryd.f151.name, by decide, Tryd.func151.trans (congrArg some (by kernel_rfl))⟩
  f25 := ⟨Tryd.f152.name, by decide, Tryd.func152.trans (congrArg some (by kernel_rfl))⟩
  f26 := ⟨Tryd.f153.name, by decide, Tryd.func153.trans (congrArg some (by kernel_rfl))⟩
  f27 := ⟨Tryd.f154.name, by decide, Tryd.func154.trans (congrArg some (by kernel_rfl))⟩
  f28 := Tryd.func155.trans (congrArg some (by kernel_rfl))
  f29 := Tryd.func156.trans (congrArg some (by kernel_rfl))
  f46 := ⟨Tryd.f177.name, by decide, Tryd.func177.trans (congrArg some (by kernel_rfl))⟩
  f47 := Tryd.func178.trans (congrArg some (by kernel_rfl))
  f48 := Tryd.func179.trans (congrArg some (by kernel_rfl))
  f49 := ⟨Tryd.f180.name, by decide, Tryd.func180.trans (congrArg some (by kernel_rfl))⟩
  f50 := ⟨Tryd.f181.name, by decide, Tryd.func181.trans (congrArg some (by kernel_rfl))⟩
  f57 := ⟨Tryd.f191.name, by decide, Tryd.func191.trans (congrArg some (by kernel_rfl))⟩
  t0 := Tryd.underlying0
  a0 := Tryd.isAgg0
  z0 := Tryd.sizeOf0
  v0 := Tryd.zeroValue0
  t3 := Tryd.underlying3
  a3 := Tryd.isAgg3
  z3 := Tryd.sizeOf3
  v3 := Tryd.zeroValue3
  t4 := Tryd.underlying4
  a4 := Tryd.isAgg4
  z4 := Tryd.sizeOf4
  v4 := Tryd.zeroValue4
  t5 := Tryd.underlying5
  a5 := Tryd.isAgg5
  z5 := Tryd.sizeOf5
  v5 := Tryd.zeroValue5
  t9 := Tryd.underlying9
  a9 := Tryd.isAgg9
  z9 := Tryd.sizeOf9
  v9 := Tryd.zeroValue9
  t22 := Tryd.underlying53
  a22 := Tryd.isAgg53
  z22 := Tryd.sizeOf53
  v22 := Tryd.zeroValue53
  t25 := Tryd.underlying94
  a25 := Tryd.isAgg94
  z25 := Tryd.sizeOf94
  v25 := Tryd.zeroValue94
  t39 := Tryd.underlying128
  a39 := Tryd.isAgg128
  z39 := Tryd.sizeOf128
  v39 := Tryd.zeroValue128
  t45 := Tryd.underlying159
  a45 := Tryd.isAgg159
  z45 := Tryd.sizeOf159
  v45 := Tryd.zeroValue159
  t46 := Tryd.underlying160
  a46 := Tryd.isAgg160
  z46 := Tryd.sizeOf160
  v46 := Tryd.zeroValue160
  t50 := Tryd.underlying164
  a50 := Tryd.isAgg164
  z50 := Tryd.sizeOf164
  v50 := Tryd.zeroValue164
  t53 := Tryd.underlying167
  a53 := Tryd.isAgg167
  z53 := Tryd.sizeOf167
  v53 := Tryd.zeroValue167
  t55 := Tryd.underlying88
  a55 := Tryd.isAgg88
  z55 := Tryd.sizeOf88
  v55 := Tryd.zeroValue88
  t66 := Tryd.underlying181
  a66 := Tryd.isAgg181
  z66 := Tryd.sizeOf181
  v66 := Tryd.zeroValue181
  t70 := Tryd.underlying185
  a70 := Tryd.isAgg185
  z70 := Tryd.sizeOf185
  v70 := Tryd.zeroValue185
  t76 := Tryd.underlying197
  a76 := Tryd.isAgg197
  z76 := Tryd.sizeOf197
  v76 := Tryd.zeroValue197
  t77 := Tryd.underlying198
  a77 := Tryd.isAgg198
  z77 := Tryd.sizeOf198
  v77 := Tryd.zeroValue198 }
open Go.RowKit Go.Lib Go.Sort in
theorem Tryd.sortRng {α : Type} [Inhabited α] (enc : α → List Value) (hk : ∀ x, (enc x).length = 3) (h1 : ∀ x, ∀ v ∈ enc x, v.oneCell' = true) (cf : α → α → Int) (hO : SWO (ltOf cf)) (g : Nat) (cb : Array Value) (blk off cap : Nat) (d : Array α) (w : World)
    (eg : ∀ args w, (callFunc g args).run Tryd.prog w = .ok (.enter g args) w) (hcmp : CmpLays Tryd.prog g cb enc 3 cf blk off d.size w) (hH : HoldsK enc 3 w blk off d) (hblk : blk < w.heap.size) (hsz : d.size < 4611686018427387904) :
    Calls Tryd.prog 79 #[.slice (some ⟨blk, off, none⟩) d.size cap, .func (.func g) #[] cb] w fun e w' =>
      e = .returned (.tuple #[]) ∧ ∃ d' n os, PermIn 0 d.size d d' ∧ SortedIn (ltOf cf) 0 d.size d' ∧ w' = sortWorldK enc 3 w blk off n d' os := AnyQ.slices_SortFunc Tryd.sortR 3 Tryd.isAgg32 Tryd.sizeOf32 enc hk h1 cf hO g cb blk off cap d w eg hcmp hH hblk hsz
end Go.Proofs
end
section
namespace Go.Proofs.YtpiifdbicibelaaDoor.PA
open Go.RowKit Go.Proofs Go.Proofs.YtpiifdbicibelaaDoorW.PrintWords Go.Proofs.YtpiifdbicibelaaDoorW.PrintLast Go.Proofs.YtpiifdbicibelaaDoorW.PrintMore
set_option linter.unusedVariables false
set_option linter.unusedSimpArgs false
def enc32 (x : S32) : List Value := [.string x.f0, .string x.f1, .bool x.f2]
/-- A row of ranges in a block, from its first cell on, none of whose cells is frozen. -/
def Row3 (w : World) (g : Nat) (xs : List S32) : Prop := ∀ (i : Nat) (x : S32), xs[i]? = some x → ∀ (j : Nat) (u : Value), (enc32 x)[j]? = some u → w.cell? ⟨g, i * 3 + j, none⟩ = some u ∧ w.frozen? ⟨g, i * 3 + j, none⟩ = false
theorem Row3.at0 {w : World} {g : Nat} {xs : List S32} (h : Row3 w g xs) {i : Nat} {x : S32} (hi : xs[i]? = some x) : w.cell? ⟨g, i * 3, none⟩ = some (.string x.f0) ∧ w.cell? ⟨g, i * 3 + 1, none⟩ = some (.string x.f1) ∧ w.cell? ⟨g, i * 3 + 2, none⟩ = some (.bool x.f2) ∧
    w.frozen? ⟨g, i * 3, none⟩ = false ∧ w.frozen? ⟨g, i * 3 + 1, none⟩ = false ∧ w.frozen? ⟨g, i * 3 + 2, none⟩ = false :=
  ⟨(h i x hi 0 _ rfl).1, (h i x hi 1 _ rfl).1, (h i x hi 2 _ rfl).1, (h i x hi 0 _ rfl).2, (h i x hi 1 _ rfl).2, (h i x hi 2 _ rfl).2⟩
theorem Row3.same {w w' : World} {g : Nat} {xs : List S32} (h : Row3 w g xs) (e : w'.heap[g]? = w.heap[g]?) : Row3 w' g xs := by
  intro i x hi j u hu
  have := h i x hi j u hu
  simpa [World.cell?, World.frozen?, e] using this
theorem Row3.below {w w' : World} {g : Nat} {xs : List S32} (h : Row3 w g xs) (hg : g < w.heap.size) (hb : Below w.heap.size w w') : Row3 w' g xs := h.same (hb.block g hg)
theorem Row3.lt {w : World} {g : Nat} {xs : List S32} (h : Row3 w g xs) (hn : 0 < xs.length) : g < w.heap.size := by
  have := (h 0 _ (List.getElem?_eq_getElem hn) 0 _ rfl).1
  exact World.block_lt_of_cell? w _ this
theorem Row3.take {w : World} {g : Nat} {xs : List S32} (h : Row3 w g xs) (n : Nat) : Row3 w g (xs.take n) := by
  intro i x hi
  refine h i x ?_
  rw [List.getElem?_take] at hi
  split at hi
  · exact hi
  · cases hi
theorem Row3.C {w : World} {g : Nat} {xs : List S32} (h : Row3 w g xs) (hl : xs.length ≤ 9223372036854775807) : Kd.C k32 w (some ⟨g, 0, none⟩) xs.length xs := by
  refine ⟨rfl, hl, fun _ => ⟨_, rfl, fun j p hp => ⟨enc32 p, rfl, k32_mk w p, fun i u hu => ?_⟩⟩⟩
  have := (h j p hp i u hu).1
  rw [add_plain]
  exact this
/-- slices.IndexFunc at ranges: the first that the predicate takes. -/
theorem idxf_rng (p : S32 → Bool) (g : Nat) (lb : Array Value) (eg : ∀ args w, (callFunc g args).run Tryd.prog w = .ok (.enter g args) w) (A : Option Addr) (xs : List S32) (c : Nat) (w : World) (hC : Kd.C k32 w A xs.length xs)
    (hp : ∀ (W : World) (x : S32), Below w.heap.size w W → Calls Tryd.prog g (#[.agg (enc32 x).toArray] ++ lb) W fun e w' => e = .returned (.bool (p x)) ∧ Below w.heap.size w w') :
    Calls Tryd.prog 115 #[.slice A xs.length c, .func (.func g) #[] lb] w fun e w' => e = .returned (.int .i64 (idxF p xs)) ∧ Below w.heap.size w w' := by
  have HC := Aside0.mk hC
  have hmax : xs.length ≤ 9223372036854775807 := hC.2.1
  clear hC
  go_enter Tryd.func115, Tryd.ntmps115
  go_wp2
  go_loopg [5, 8] xs.length (fun gg _ s8 wr => ∃ kk : Nat, s8 = .int .i64 kk ∧ Aside0 (kk ≤ xs.length) ∧ Aside0 (xs.length - kk ≤ gg) ∧ Aside0 (Below w.heap.size w wr) ∧ Aside0 (∀ x ∈ xs.take kk, p x = false))
  case atStart => exact ⟨0, rfl, ⟨Nat.zero_le _⟩, ⟨by omega⟩, ⟨Below.refl _ w⟩, ⟨fun x hx => by simp at hx⟩⟩
  case round =>
    obtain ⟨kk, rfl, HK, HM, HB, HN⟩ := hrel
    have hkk := HK.out
    by_cases hlt : kk < xs.length
    · have hltz : (kk : Int) < (xs.length : Int) := by omega
      obtain ⟨ad, e, hx0, hx1, hx2⟩ := at_T32 HC.out (kk : Int) (by omega) hltz
      subst e
      simp only [Int.toNat_natCast] at hx0 hx1 hx2
      replace hx0 := (HB.out.cell (World.block_lt_of_cell? w _ hx0)).trans hx0
      replace hx1 := (HB.out.cell (World.block_lt_of_cell? w _ hx1)).trans hx1
      replace hx2 := (HB.out.cell (World.block_lt_of_cell? w _ hx2)).trans hx2
      have hy : xs[kk]? = some (rd_T32 xs (kk : Int)) := by unfold rd_T32; simp [List.getD, List.getElem?_eq_getElem hlt]
      generalize rd_T32 xs (kk : Int) = y at hx0 hx1 hx2 hy
      have HY := Aside0.mk hy
      have hcall := hp wr y HB.out
      unfold enc32 at hcall
      clear hy hp
      cases hq : p y with
      | true =>
        rw [hq] at hcall
        go_wp2_with (go_at_fn g; refine hcall.mono ?_; rintro e w' ⟨rfl, hb'⟩)
        go_ret
        exact ⟨by rw [any_take HY.out HN.out hq]; rfl, hb'⟩
      | false =>
        rw [hq] at hcall
        go_wp2_with (go_at_fn g; refine hcall.mono ?_; rintro e w' ⟨rfl, hb'⟩)
        go_roundg (xs.length - (kk + 1))
        case measure => have := HM.out; omega
        case rel => exact ⟨kk + 1, by go_num, ⟨by omega⟩, ⟨Nat.le_refl _⟩, ⟨hb'⟩, ⟨take_step HY.out HN.out hq⟩⟩
    · obtain rfl : kk = xs.length := by omega
      have hltz : ¬ (xs.length : Int) < (xs.length : Int) := by omega
      go_wp2
      go_ret
      exact ⟨by rw [any_none HN.out]; rfl, HB.out⟩
theorem idxF_cases {α : Type} (p : α → Bool) (xs : List α) : (idxF p xs = -1 ∧ ∀ x ∈ xs, p x = false) ∨ ∃ k : Nat, k < xs.length ∧ idxF p xs = (k : Int) ∧ (∀ x ∈ xs.take k, p x = false) ∧ ∃ y, xs[k]? = some y ∧ p y = true := by
  unfold idxF
  cases h : xs.any p with
  | false =>
    left
    refine ⟨if_neg (by decide), fun x hx => ?_⟩
    have := List.any_eq_false.1 h x hx
    simpa using this
  | true =>
    right
    have hlt : xs.findIdx p < xs.length := List.findIdx_lt_length.2 (by simpa using h)
    refine ⟨xs.findIdx p, hlt, if_pos rfl, fun x hx => ?_, xs[xs.findIdx p], List.getElem?_eq_getElem hlt, List.findIdx_getElem⟩
    obtain ⟨j, hj, rfl⟩ := List.mem_take_iff_getElem.1 hx
    have := List.not_of_lt_findIdx (p := p) (xs := xs) (i := j) (by omega)
    simpa using this
/-- Behind j elements of which i were kept: the begin is what was kept, the rest is as_ it was. -/
structure Kept3 (p : S32 → Bool) (xs L : List S32) (i j : Nat) : Prop where
  len : L.length = xs.length
  lt : i < j
  le : j ≤ xs.length
  low : L.take i = (xs.take j).filter fun x => !p x
  high : ∀ k, j ≤ k → L[k]? = xs[k]?
theorem Kept3.start {p : S32 → Bool} {xs : List S32} {k : Nat} {y : S32} (hk : k < xs.length) (h : ∀ x ∈ xs.take k, p x = false) (hy : xs[k]? = some y) (hp : p y = true) : Kept3 p xs xs k (k + 1) := by
  refine ⟨rfl, Nat.lt_succ_self _, hk, ?_, fun _ _ => rfl⟩
  rw [List.take_add_one, hy, List.filter_append, List.filter_eq_self.2 (fun x hx => by rw [h x hx]; rfl)]
  simp [hp]
theorem Kept3.skip {p : S32 → Bool} {xs L : List S32} {i j : Nat} {y : S32} (h : Kept3 p xs L i j) (hy : xs[j]? = some y) (hp : p y = true) : Kept3 p xs L i (j + 1) := by
  have hj := (List.getElem?_eq_some_iff.1 hy).1
  refine ⟨h.len, Nat.lt_succ_of_lt h.lt, hj, ?_, fun k hk => h.high k (by omega)⟩
  rw [List.take_add_one, hy, List.filter_append, h.low]
  simp [hp]
theorem Kept3.keep {p : S32 → Bool} {xs L : List S32} {i j : Nat} {y : S32} (h : Kept3 p xs L i j) (hy : xs[j]? = some y) (hp : p y = false) : Kept3 p xs (L.set i y) (i + 1) (j + 1) := by
  have hj := (List.getElem?_eq_some_iff.1 hy).1
  have hlen := h.len
  have hlt := h.lt
  refine ⟨by rw [List.length_set]; exact h.len, by omega, hj, ?_, fun k hk => ?_⟩
  · rw [List.take_add_one, List.getElem?_set_self (by omega), List.take_set_of_le (Nat.le_refl _), h.low, List.take_add_one, hy, List.filter_append]
    simp [hp]
  · rw [List.getElem?_set_ne (by omega)]; exact h.high k (by omega)
theorem Row3.set {w : World} {g : Nat} {xs : List S32} (h : Row3 w g xs) (i : Nat) (hi : i < xs.length) (y : S32) : Row3 (w.setCells g (i * 3) (enc32 y)) g (xs.set i y) := by
  intro k x hk j u hu
  have hj : j < 3 := by have := (List.getElem?_eq_some_iff.1 hu).1; simpa [enc32] using this
  rw [World.frozen?_setCells]
  by_cases e : i = k
  · subst e
    rw [List.getElem?_set_self hi, Option.some.injEq] at hk
    subst hk
    have hin := World.cell?_setCells_in g (enc32 y) (i * 3) w (fun t ht => by
      have ht3 : t < 3 := by simpa [enc32] using ht
      have := (h i _ (List.getElem?_eq_getElem hi) t ((enc32 xs[i])[t]'(by simpa [enc32] using ht3)) (List.getElem?_eq_getElem _)).1
      rw [this]; rfl) j (by simpa [enc32] using hj)
    refine ⟨?_, (h i _ (List.getElem?_eq_getElem hi) j ((enc32 xs[i])[j]'(by simpa [enc32] using hj)) (List.getElem?_eq_getElem _)).2⟩
    rw [hin]
    have := (List.getElem?_eq_some_iff.1 hu).2
    rw [← this]
  · rw [List.getElem?_set_ne e] at hk
    rw [World.cell?_setCells_out g _ _ _ _ (fun _ _ => by simp [enc32]; omega)]
    exact h k x hk j u hu
theorem Row3.cut {w : World} {g : Nat} {xs : List S32} (h : Row3 w g xs) (i : Nat) (vs : List Value) : Row3 (w.setCells g (i * 3) vs) g (xs.take i) := by
  intro k x hk j u hu
  have hj : j < 3 := by have := (List.getElem?_eq_some_iff.1 hu).1; simpa [enc32] using this
  rw [List.getElem?_take] at hk
  split at hk
  · rw [World.frozen?_setCells, World.cell?_setCells_out g _ _ _ _ (fun _ _ => by left; show k * 3 + j < i * 3; omega)]
    exact h k x hk j u hu
  · cases hk
theorem below_sets {B g : Nat} {w0 w : World} (hg : B ≤ g) (vs : List Value) (o : Nat) (h : Below B w0 w) : Below B w0 (w.setCells g o vs) := by
  obtain ⟨s1, s2, s3, s4⟩ := setCells_same g vs o w
  exact ⟨s1.trans h.os, s2.trans h.tape, s3.trans h.output, by rw [s4]; exact h.size, fun i hi => (setCells_far vs o i (by omega)).trans (h.block i hi)⟩
/-- 'clear' at ranges: some cells are laid, from the first one on. -/
theorem run_clear3 (w : World) (b i n c : Nat) (L : List S32) (hR : Row3 w b L) (hn : 0 < n) (hL : i + n = L.length) : ∃ vs : List Value, ∀ ty, (Builtin.clear_ #[53] ty #[.slice (some ⟨b, i * 3, none⟩) n c]).run Tryd.prog w = .ok (.tuple #[]) (w.setCells b (i * 3) vs) := by
  have hv := Tryd.zeroValue32
  generalize hz : (Builtin.zeroCells (#[.string (⟨#[]⟩ : ByteArray), .string (⟨#[]⟩ : ByteArray), .bool false] : Array Value) n).toList = vs
  have hlen : vs.length = n * 3 := by rw [← hz]; simp [Builtin.zeroCells]
  have hone : ∀ v ∈ vs, v.oneCell' = true := by
    intro v hv'
    rw [← hz] at hv'
    simp only [Builtin.zeroCells, Array.toList_map, Array.toList_range, List.mem_map] at hv'
    obtain ⟨j, _, rfl⟩ := hv'
    have h3 : j % 3 = 0 ∨ j % 3 = 1 ∨ j % 3 = 2 := by omega
    show (#[Value.string (⟨#[]⟩ : ByteArray), .string (⟨#[]⟩ : ByteArray), .bool false][j % 3]!).oneCell' = true
    rcases h3 with e | e | e <;> rw [e] <;> rfl
  have hcell : ∀ j, j < vs.length → (w.cell? ⟨b, i * 3 + j, none⟩).isSome = true ∧ w.frozen? ⟨b, i * 3 + j, none⟩ = false := by
    intro j hj
    rw [hlen] at hj
    have hk : i + j / 3 < L.length := by omega
    have hj3 : j % 3 < (enc32 L[i + j / 3]).length := by show j % 3 < 3; omega
    have := hR (i + j / 3) _ (List.getElem?_eq_getElem hk) (j % 3) _ (List.getElem?_eq_getElem hj3)
    rw [show (i + j / 3) * 3 + j % 3 = i * 3 + j by omega] at this
    exact ⟨by rw [this.1]; rfl, this.2⟩
  have hst := run_storeCells_cells (P := Tryd.prog) b (i * 3) vs 0 w (fun j hj => by simpa using (hcell j hj).1) (fun j hj => by simpa using (hcell j hj).2) hone
  simp only [Nat.add_zero] at hst
  refine ⟨vs, fun ty => ?_⟩
  obtain ⟨m, rfl⟩ : ∃ m, n = m + 1 := ⟨n - 1, by omega⟩
  simp [Builtin.clear_, run_underlying Tryd.underlying53, hv, hz, hst, Value.cells]
set_option maxHeartbeats 4000000 in
set_option maxRecDepth 100000 in
theorem delf_rng (p : S32 → Bool) (g : Nat) (lb : Array Value) (eg : ∀ args w, (callFunc g args).run Tryd.prog w = .ok (.enter g args) w) (w0 : World) (gb cap : Nat) (xs : List S32) (w : World) (hR : Row3 w gb xs) (hl : xs.length ≤ 4611686018427387904) (hcap : xs.length ≤ cap) (h0 : w0.heap.size ≤ gb) (hB : Below w0.heap.size w0 w)
    (hp : ∀ (W : World) (x : S32), Calls Tryd.prog g (#[.agg (enc32 x).toArray] ++ lb) W fun e w' => e = .returned (.bool (p x)) ∧ Below W.heap.size W w') :
    Calls Tryd.prog 77 #[.slice (some ⟨gb, 0, none⟩) xs.length cap, .func (.func g) #[] lb] w fun e w' => e = .returned (.slice (some ⟨gb, 0, none⟩) (xs.filter fun x => !p x).length cap) ∧ Row3 w' gb (xs.filter fun x => !p x) ∧ Below w0.heap.size w0 w' ∧ w.heap.size ≤ w'.heap.size := by
  have hidx := idxf_rng p g lb eg (some ⟨gb, 0, none⟩) xs cap w (hR.C (by omega)) (fun W x hb => (hp W x).mono fun e w' h => ⟨h.1, Below.trans hb (h.2.mono hb.size)⟩)
  rcases idxF_cases p xs with ⟨e1, hall⟩ | ⟨k0, hk0, e1, hall, y0, hy0, hpy⟩
  · rw [e1] at hidx
    have hf : (xs.filter fun x => !p x) = xs := List.filter_eq_self.2 fun x hx => by rw [hall x hx]; rfl
    rw [hf]
    have HR := Aside0.mk hR
    have HB := Aside0.mk hB
    clear hR hB hp hf hall
    go_enter Tryd.func77, Tryd.ntmps77
    go_wp2_with (go_at_call 115; refine hidx.mono ?_; rintro e w' ⟨rfl, hb'⟩)
    go_ret
    refine ⟨rfl, ?_, below_step HB.out hb', hb'.size⟩
    intro i x hi
    exact Row3.below HR.out (HR.out.lt (by have := (List.getElem?_eq_some_iff.1 hi).1; omega)) hb' i x hi
  · rw [e1] at hidx
    have hlow : (k0 : Int) ≠ -1 := by omega
    have HR := Aside0.mk hR
    have HB := Aside0.mk hB
    have HP := Aside0.mk hp
    have HK := Aside0.mk (Kept3.start hk0 hall hy0 hpy)
    clear hR hB hp hall hy0 hpy
    go_enter Tryd.func77, Tryd.ntmps77
    go_wp2_with (go_at_call 115; refine hidx.mono ?_; rintro e w1 ⟨rfl, hb1⟩)
    have hgb := HR.out.lt (by omega)
    have HR1 := Aside0.mk (HR.out.below hgb hb1)
    have HB1 := Aside0.mk (below_step HB.out hb1)
    have HZ := Aside0.mk hb1.size
    have HG := Aside0.mk hgb
    clear hb1 hgb
    go_loopg [5, 6, 7] xs.length (fun gg s5 s6 _ wr => ∃ (i j : Nat) (L : List S32), s5 = .int .i64 i ∧ s6 = .int .i64 j ∧ Aside0 (Kept3 p xs L i j) ∧ Aside0 (xs.length - j ≤ gg) ∧ Aside0 (Row3 wr gb L) ∧ Aside0 (Below w0.heap.size w0 wr) ∧ Aside0 (w.heap.size ≤ wr.heap.size))
    case atStart => exact ⟨k0, k0 + 1, xs, rfl, by go_num, ⟨HK.out⟩, ⟨by omega⟩, ⟨HR1.out⟩, ⟨HB1.out⟩, ⟨HZ.out⟩⟩
    case round =>
      obtain ⟨i, j, L, rfl, rfl, HKk, HM, HRr, HBr, HZr⟩ := hrel
      have hlen := HKk.out.len
      have hij := HKk.out.lt
      have hjn := HKk.out.le
      by_cases hlt : j < xs.length
      · have hltz : (j : Int) < (xs.length : Int) := by omega
        obtain ⟨y, hy⟩ : ∃ y, xs[j]? = some y := ⟨_, List.getElem?_eq_getElem hlt⟩
        have hyL : L[j]? = some y := by rw [HKk.out.high j (Nat.le_refl _)]; exact hy
        obtain ⟨cx0, cx1, cx2, fx0, fx1, fx2⟩ := HRr.out.at0 hyL
        have hcall : ∀ W, Calls Tryd.prog g (#[.agg #[.string y.f0, .string y.f1, .bool y.f2]] ++ lb) W fun e w' => e = .returned (.bool (p y)) ∧ Below W.heap.size W w' := fun W => HP.out W y
        cases hq : p y with
        | true =>
          rw [hq] at hcall
          go_wp2_with (go_at_fn g; refine (hcall _).mono ?_; rintro e w' ⟨rfl, hb'⟩)
          have hgr : gb < wr.heap.size := by have := HG.out; have := HZr.out; omega
          have hbA : Below wr.heap.size wr w' := below_step (below_alloc (Below.refl _ wr) _) hb'
          go_roundg (xs.length - (j + 1))
          case measure => have := HM.out; omega
          case rel => exact ⟨i, j + 1, L, rfl, by go_num, ⟨HKk.out.skip hy hq⟩, ⟨Nat.le_refl _⟩, ⟨HRr.out.below hgr hbA⟩, ⟨below_step HBr.out hbA⟩, ⟨Nat.le_trans HZr.out hbA.size⟩⟩
        | false =>
          rw [hq] at hcall
          have hgr : gb < wr.heap.size := by have := HG.out; have := HZr.out; omega
          have hiL : i < L.length := by omega
          have hltI : (i : Int) < (xs.length : Int) := by omega
          go_wp2_with (go_at_fn g; refine (hcall _).mono ?_; rintro e w' ⟨rfl, hb'⟩; have hbA : Below wr.heap.size wr w' := below_step (below_alloc (Below.refl _ wr) _) hb'; have HRn := Aside0.mk (HRr.out.below hgr hbA); obtain ⟨dx0, dx1, dx2, gx0, gx1, gx2⟩ := HRn.out.at0 (List.getElem?_eq_getElem hiL); have vx0 := (hb'.cell (p := ⟨wr.heap.size, 0, none⟩) (by simp)).trans (show _ = some _ by simp; rfl); have vx1 := (hb'.cell (p := ⟨wr.heap.size, 1, none⟩) (by simp)).trans (show _ = some _ by simp; rfl); have vx2 := (hb'.cell (p := ⟨wr.heap.size, 2, none⟩) (by simp)).trans (show _ = some _ by simp; rfl))
          have hRs := HRn.out.set i hiL y
          have hws : (((w'.setCell ⟨gb, i * 3, none⟩ (.string y.f0)).setCell ⟨gb, i * 3 + 1, none⟩ (.string y.f1)).setCell ⟨gb, i * 3 + 2, none⟩ (.bool y.f2)) = w'.setCells gb (i * 3) (enc32 y) := rfl
          rw [hws]
          have hbS := below_sets h0 (enc32 y) (i * 3) (below_step HBr.out hbA)
          have hzS : (w'.setCells gb (i * 3) (enc32 y)).heap.size = w'.heap.size := (setCells_same gb (enc32 y) (i * 3) w').2.2.2
          go_roundg (xs.length - (j + 1))
          case measure => have := HM.out; omega
          case rel => exact ⟨i + 1, j + 1, L.set i y, by go_num, by go_num, ⟨HKk.out.keep hy hq⟩, ⟨Nat.le_refl _⟩, ⟨hRs⟩, ⟨hbS⟩, ⟨by rw [hzS]; exact Nat.le_trans HZr.out hbA.size⟩⟩
      · obtain rfl : j = xs.length := by omega
        have hltz : ¬ (xs.length : Int) < (xs.length : Int) := by omega
        obtain ⟨vs, hcl⟩ := run_clear3 wr gb i (xs.length - i) (cap - i) L HRr.out (by omega) (by omega)
        have hlow2 := HKk.out.low
        rw [List.take_of_length_le (Nat.le_refl _)] at hlow2
        have hfl : (xs.filter fun x => !p x).length = i := by rw [← hlow2, List.length_take]; omega
        have HL := Aside0.mk hlow2
        have HF := Aside0.mk hfl
        clear hlow2 hfl
        go_wp2
        go_ret
        rw [HF.out, ← HL.out]
        refine ⟨rfl, HRr.out.cut i vs, below_sets h0 vs (i * 3) HBr.out, ?_⟩
        rw [(setCells_same gb vs (i * 3) wr).2.2.2]
        exact HZr.out
theorem info32U : (Tryd.prog.info? 32).map (fun i => (i.zero, i.size, i.bytes)) = some (some (.agg #[(.string ⟨#[]⟩), (.string ⟨#[]⟩), (.bool false)]), 3, 40) := by kernel_rfl
theorem own3_parts {w : World} {base g n cap : Nat} {xs : List S32} (h : Kd.R k32 32 w base (fun _ => True) (.slice (some ⟨g, 0, none⟩) n cap) xs) : n = xs.length ∧ base ≤ g ∧ xs.length ≤ cap ∧ cap ≤ maxLen ∧ Row3 w g xs ∧ ∃ cur, w.heap[g]? = some (.cells cur 32 (0, 0)) ∧ cur.size = cap * 3 := by
  obtain ⟨_, inner, ⟨hlen, hor⟩, hreps⟩ := h
  replace hreps : Reps _ 3 xs inner := hreps
  rcases hor with ⟨e, _⟩ | ⟨g', cap', cur, e, hg, hh, hnc, hcm, hsz, htk⟩
  · simp at e
  · replace hsz : cur.size = cap' * 3 := hsz
    replace htk : cur.toList.take (xs.length * 3) = inner := htk
    simp only [Value.slice.injEq, Option.some.injEq, Addr.mk.injEq, and_true, true_and] at e
    obtain ⟨rfl, rfl, rfl⟩ := e
    refine ⟨rfl, hg, hnc, hcm, ?_, cur, hh, hsz⟩
    intro i x hx j u hu
    have hi := (List.getElem?_eq_some_iff.1 hx).1
    have hj : j < 3 := by have := (List.getElem?_eq_some_iff.1 hu).1; simpa [enc32] using this
    have hM := k32_openM (hreps.2 i x hx)
    have e1 : ((inner.drop (i * 3)).take 3)[j]? = some u := by rw [hM]; exact hu
    rw [List.getElem?_take, if_pos hj, List.getElem?_drop, ← htk, List.getElem?_take, if_pos (by omega)] at e1
    have e2 : cur[i * 3 + j]? = some u := by rw [← Array.getElem?_toList]; exact e1
    exact ⟨by simp [World.cell?, hh, e2], by simp [World.frozen?, hh]⟩
theorem own3_mk {w : World} {base g cap : Nat} {xs : List S32} {cur : Array Value} (hg : base ≤ g) (hn : xs.length ≤ cap) (hm : cap ≤ maxLen) (hr : Row3 w g xs) (hh : w.heap[g]? = some (.cells cur 32 (0, 0))) (hs : cur.size = cap * 3) : Kd.R k32 32 w base (fun _ => True) (.slice (some ⟨g, 0, none⟩) xs.length cap) xs := by
  have hcl : cur.toList.length = cap * 3 := by simpa using hs
  have hlen : (cur.toList.take (xs.length * 3)).length = xs.length * 3 := by rw [List.length_take, hcl]; omega
  refine ⟨fun _ _ => trivial, cur.toList.take (xs.length * 3), ⟨hlen, .inr ⟨g, cap, cur, rfl, hg, hh, hn, hm, hs, rfl⟩⟩, hlen, ?_⟩
  intro i x hx
  have hi := (List.getElem?_eq_some_iff.1 hx).1
  have e : ((cur.toList.take (xs.length * 3)).drop (i * 3)).take 3 = enc32 x := by
    apply List.ext_getElem?
    intro j
    by_cases hj : j < 3
    · obtain ⟨u, hu⟩ : ∃ u, (enc32 x)[j]? = some u := ⟨_, List.getElem?_eq_getElem (by show j < 3; exact hj)⟩
      have hc := (hr i x hx j u hu).1
      rw [hu, List.getElem?_take, if_pos hj, List.getElem?_drop, List.getElem?_take, if_pos (by omega), Array.getElem?_toList]
      simpa [World.cell?, hh] using hc
    · rw [List.getElem?_eq_none (by rw [List.length_take]; omega), List.getElem?_eq_none (by show 3 ≤ j; omega)]
  show k32.M _ _ _ x (((cur.toList.take (xs.length * 3)).drop (i * 3)).take 3)
  rw [e]
  exact k32_mkM _ _ _ x
/-- One cell of one element is laid. -/
theorem Row3.put {w : World} {g : Nat} {xs : List S32} (h : Row3 w g xs) {i : Nat} {x : S32} (hx : xs[i]? = some x) (y : S32) (j0 : Nat) (v : Value) (hj0 : (enc32 y)[j0]? = some v) (hy : ∀ j, j ≠ j0 → (enc32 y)[j]? = (enc32 x)[j]?) : Row3 (w.setCell ⟨g, i * 3 + j0, none⟩ v) g (xs.set i y) := by
  intro k z hk j u hu
  have hi := (List.getElem?_eq_some_iff.1 hx).1
  have hj : j < 3 := by have := (List.getElem?_eq_some_iff.1 hu).1; simpa [enc32] using this
  have hj0' : j0 < 3 := by have := (List.getElem?_eq_some_iff.1 hj0).1; simpa [enc32] using this
  rw [World.frozen?_setCell]
  by_cases e : i = k
  · subst e
    rw [List.getElem?_set_self hi, Option.some.injEq] at hk
    subst hk
    obtain ⟨u0, hu0⟩ : ∃ u0, (enc32 x)[j]? = some u0 := ⟨_, List.getElem?_eq_getElem (by show j < 3; exact hj)⟩
    have h0 := h i x hx j u0 hu0
    by_cases ej : j = j0
    · subst ej
      refine ⟨?_, h0.2⟩
      rw [hj0] at hu
      obtain rfl := Option.some.inj hu
      exact World.cell?_setCell_same _ _ _ h0.1
    · rw [hy j ej, hu0] at hu
      obtain rfl := Option.some.inj hu
      rw [World.cell?_setCell_other _ _ _ _ (by first | (simp; done) | (simp; omega))]
      exact h0
  · rw [List.getElem?_set_ne e] at hk
    rw [World.cell?_setCell_other _ _ _ _ (by first | (simp; done) | (simp; omega))]
    exact h k z hk j u hu
theorem put3 {w : World} {base g n cap : Nat} {xs : List S32} (h : Kd.R k32 32 w base (fun _ => True) (.slice (some ⟨g, 0, none⟩) n cap) xs) {i : Nat} {x : S32} (hx : xs[i]? = some x) (y : S32) (j0 : Nat) (v : Value) (hj0 : (enc32 y)[j0]? = some v) (hy : ∀ j, j ≠ j0 → (enc32 y)[j]? = (enc32 x)[j]?) :
    Kd.R k32 32 (w.setCell ⟨g, i * 3 + j0, none⟩ v) base (fun _ => True) (.slice (some ⟨g, 0, none⟩) n cap) (xs.set i y) := by
  obtain ⟨rfl, hg, hn, hm, hr, cur, hh, hs⟩ := own3_parts h
  have := own3_mk (xs := xs.set i y) hg (by rw [List.length_set]; exact hn) hm (hr.put hx y j0 v hj0 hy) (Go.Lib.heap_setCell_same (i := i * 3 + j0) hh v) (by simpa using hs)
  rwa [List.length_set] at this
set_option maxHeartbeats 4000000 in
set_option maxRecDepth 100000 in
/-- slices.Clone at ranges. -/
theorem clone_rng (xs : List S32) (A : Option Addr) (c : Nat) (w : World) (hC : Kd.C k32 w A xs.length xs) (hl : xs.length * 40 ≤ 140737488355328) :
    Calls Tryd.prog 78 #[.slice A xs.length c] w fun e w' => (A = none ∧ e = .returned (.slice none 0 0) ∧ w' = w) ∨ A ≠ none ∧ ∃ g cap, e = .returned (.slice (some ⟨g, 0, none⟩) xs.length cap) ∧ w.heap.size ≤ g ∧ g < w'.heap.size ∧ xs.length ≤ cap ∧ Row3 w' g xs ∧ Below w.heap.size w w' := by
  cases A with
  | none =>
    clear hC
    have q53 : ∀ (w : World) (a : Option Addr) (n c n' c' : Nat), (binOp .eql 53 (.slice a n c) (.slice none n' c')).run Tryd.prog w = .ok (.bool a.isNone) w := fun w a n c n' c' => Go.Lib.run_eql_slice_nil w _ _ a n c n' c' Tryd.underlying53
    have u53 : ∀ w, Sem.run Tryd.prog (underlying 53) w = .ok (TypeDesc.slice 32) w := run_underlying Tryd.underlying53
    go_enter Tryd.func78, Tryd.ntmps78
    go_wp2
    go_ret
    first | exact .inl ⟨rfl, rfl, rfl⟩ | simp
  | some ad =>
    obtain ⟨inner, hrep, hcells⟩ := ReadsRow.inner_ hC
    replace hrep : Reps (k32.K w) 3 xs inner := hrep
    have hlen := hrep.1
    have hone : ∀ u ∈ inner, u.oneCell' = true := by
      intro u hu
      obtain ⟨t, ht, e⟩ := List.getElem_of_mem hu
      have hk : t / 3 < xs.length := by omega
      have hK := k32_open (hrep.2 (t / 3) _ (List.getElem?_eq_getElem hk))
      have e1 : ((inner.drop (t / 3 * 3)).take 3)[t % 3]? = some u := by rw [List.getElem?_take, if_pos (by omega), List.getElem?_drop, show t / 3 * 3 + t % 3 = t by omega, List.getElem?_eq_getElem ht, e]
      rw [hK] at e1
      have h3 : t % 3 = 0 ∨ t % 3 = 1 ∨ t % 3 = 2 := by omega
      rcases h3 with q | q | q <;> rw [q] at e1 <;> (obtain rfl := Option.some.inj e1) <;> rfl
    have HI := Aside0.mk hrep
    have HC := Aside0.mk hcells
    have HL := Aside0.mk hlen
    have H1 := Aside0.mk hone
    obtain ⟨i0, hi, hz0, hz1, hz2⟩ := info_parts info32U
    clear hC hrep hcells hone hlen
    have q53 : ∀ (w : World) (a : Option Addr) (n c n' c' : Nat), (binOp .eql 53 (.slice a n c) (.slice none n' c')).run Tryd.prog w = .ok (.bool a.isNone) w := fun w a n c n' c' => Go.Lib.run_eql_slice_nil w _ _ a n c n' c' Tryd.underlying53
    have u53 : ∀ w, Sem.run Tryd.prog (underlying 53) w = .ok (TypeDesc.slice 32) w := run_underlying Tryd.underlying53
    go_enter Tryd.func78, Tryd.ntmps78
    go_wp2_with (at_builtin; refine wpList_append_own _ rfl _ _ 53 rfl w.heap.size 32 i0 (.agg #[(.string ⟨#[]⟩), (.string ⟨#[]⟩), (.bool false)]) 3 40 Tryd.underlying53 hi hz0 hz1 hz2 rfl (by decide) _ _ _ rfl (World.ownsRow_made w #[] 0 (Nat.le_refl _) (Nat.zero_le _) rfl) ad xs.length c inner rfl ?qc1 ?qc2 ?qc3 ?qc4 ?qc5 ?qc6 ?_)
    case qc1 => exact HL.out
    case qc2 => intro j u hj; exact Go.Lib.cell?_alloc_some _ (HC.out j u hj)
    case qc3 => exact H1.out
    case qc4 => unfold maxLen; omega
    case qc5 => omega
    case qc6 => simp
    intro v' w1 hown hgrow hnil
    go_wp2
    go_ret
    have hne : v' ≠ .slice none 0 0 := fun e => by first | exact hnil e | (have := (hnil.1 e).1; simp at this)
    have hown2 : w1.ownsRow w.heap.size 32 3 v' xs.length inner := by simpa using hown
    have hR : Kd.R k32 32 w1 w.heap.size (fun _ => True) v' xs := ⟨fun _ _ => trivial, inner, hown2, HI.out.imp_ fun p cs hp => by rw [k32_open hp]; exact k32_mkM _ _ _ p⟩
    have hb : Below w.heap.size w w1 := ((Below.refl _ w).alloc (Nat.le_refl _) _).grown hgrow (by simp) (by intro k hk; simp [Value.ownBlock] at hk; omega)
    rcases hown2.2 with ⟨e, _⟩ | ⟨g, cap, cur, rfl, hg, hh, hnc, _⟩
    · exact absurd e hne
    · obtain ⟨_, _, hcap, _, hrow, _, _, _⟩ := own3_parts hR
      exact .inr ⟨by simp, g, cap, by simp, hg, blk_lt hh, hcap, hrow, hb⟩
theorem cmpB_lt : ∀ a b : List UInt8, Lib.compareBytes a b < 0 ↔ a < b
  | [], [] => by simp [Lib.compareBytes]
  | [], _ :: _ => by simp [Lib.compareBytes]
  | _ :: _, [] => by simp [Lib.compareBytes]
  | x :: a, y :: b => by
    unfold Lib.compareBytes
    rw [List.cons_lt_cons_iff]
    by_cases h1 : x < y
    · simp [h1]
    · by_cases h2 : y < x
      · have : ¬ x = y := fun e => by subst e; exact h1 h2
        simp [h1, h2, this]
      · have : x = y := UInt8.le_antisymm (UInt8.not_lt.1 h2) (UInt8.not_lt.1 h1)
        simp [h1, h2, this, cmpB_lt a b]
/-- How ranges are sorted: by their first key. -/
def lowCmp (x y : S32) : Int := Lib.compareBytes x.f0.data.toList y.f0.data.toList
theorem lowCmp_lt (x y : S32) : Go.Proofs.ltOf lowCmp x y = true ↔ x.f0.data.toList < y.f0.data.toList := by
  unfold Go.Proofs.ltOf lowCmp
  rw [decide_eq_true_iff, cmpB_lt]
theorem lowCmp_swo : Go.Sort.SWO (Go.Proofs.ltOf lowCmp) := by
  have e : ∀ x y, Go.Proofs.ltOf lowCmp x y = false ↔ ¬ x.f0.data.toList < y.f0.data.toList := fun x y => by rw [← lowCmp_lt, Bool.not_eq_true]
  refine ⟨fun x => (e x x).2 (List.lt_irrefl _), fun x y z h1 h2 => (lowCmp_lt x z).2 (List.lt_trans ((lowCmp_lt x y).1 h1) ((lowCmp_lt y z).1 h2)), fun x y z h1 h2 => (e x z).2 ?_⟩
  exact List.not_lt.2 (List.le_trans (List.not_lt.1 ((e y z).1 h2)) (List.not_lt.1 ((e x y).1 h1)))
theorem grow_two (w : World) (a b : Obj) : ∃ q os, (w.alloc a).alloc b = Go.Sort.grow (w.drewN q) os := by
  have e2 : ∀ (h : Array Obj), (h.push a).push b = h ++ #[a, b] := fun h => by apply Array.ext'; simp
  refine ⟨0, #[a, b], ?_⟩
  show { w with heap := (w.heap.push a).push b } = _
  rw [e2]
  rfl
set_option maxHeartbeats 4000000 in
set_option maxRecDepth 100000 in
/-- code.Union$1: how two ranges stand. -/
theorem low_rng (x y : S32) (w : World) : Calls Tryd.prog 80 #[.agg (enc32 x).toArray, .agg (enc32 y).toArray] w fun e w' => e = .returned (.int .i64 (lowCmp x y)) ∧ ∃ q os, w' = Go.Sort.grow (w.drewN q) os := by
  unfold enc32
  go_enter Tryd.func80, Tryd.ntmps80
  go_wp2_with (go_at_call 81; refine (Tryd.strings_Compare _ _ _).mono ?_; rintro e w' ⟨rfl, rfl⟩)
  go_ret
  refine ⟨rfl, ?_⟩
  exact grow_two w _ _
instance instInhS32U : Inhabited S32 := ⟨⟨⟨#[]⟩, ⟨#[]⟩, false⟩⟩
theorem Row3.holds {w : World} {g : Nat} {xs : List S32} (h : Row3 w g xs) : Go.Sort.HoldsK enc32 3 w g 0 xs.toArray := by
  intro j hj
  rw [Go.Sort.size_flatK] at hj
  have hj' : j < xs.length * 3 := by simpa using hj
  rw [Go.Sort.get_flatK _ _ _ _ hj]
  have hi : j / 3 < xs.length := by omega
  have e1 : xs.toArray[j / 3]! = xs[j / 3] := by simp [hi]
  have h3 : j % 3 < (enc32 xs[j / 3]).length := by show j % 3 < 3; omega
  have := h (j / 3) _ (List.getElem?_eq_getElem hi) (j % 3) _ (List.getElem?_eq_getElem h3)
  rw [show j / 3 * 3 + j % 3 = 0 + j by omega] at this
  rw [e1, getElem!_pos (enc32 xs[j / 3]) (j % 3) h3]
  exact this
theorem Row3.of_holds {w : World} {g : Nat} {d : Array S32} (h : Go.Sort.HoldsK enc32 3 w g 0 d) : Row3 w g d.toList := by
  intro i x hx j u hu
  have hj : j < 3 := by have := (List.getElem?_eq_some_iff.1 hu).1; simpa [enc32] using this
  have hi : i < d.size := by have := (List.getElem?_eq_some_iff.1 hx).1; simpa using this
  have := h.cell hi hj
  rw [Nat.zero_add] at this
  have e1 : d[i]! = x := by
    rw [getElem!_pos d i hi]
    have := (List.getElem?_eq_some_iff.1 hx).2
    simpa using this
  have h3 : j < (enc32 x).length := by show j < 3; exact hj
  have e2 : (enc32 x)[j]! = u := by
    rw [getElem!_pos (enc32 x) j h3]
    exact (List.getElem?_eq_some_iff.1 hu).2
  rw [e1, e2] at this
  exact this
theorem sort_below {w : World} {g B : Nat} (hg : B ≤ g) (hgw : g < w.heap.size) (m : Nat) (d : Array S32) (os : Array Obj) : Below B w (Go.Proofs.sortWorldK enc32 3 w g 0 m d os) := by
  refine ⟨rfl, rfl, rfl, Go.Proofs.size_sortWorldK_c enc32 3 w g 0 m d os, fun k hk => ?_⟩
  show ((w.heap.modify g _) ++ os)[k]? = w.heap[k]?
  rw [Array.getElem?_append_left (by simp; omega), Array.getElem?_modify, if_neg (by omega)]
/-- slices.SortFunc at ranges, by their first keys. -/
theorem sorted_rng (w0 : World) (gb cap : Nat) (xs : List S32) (w : World) (hR : Row3 w gb xs) (hl : xs.length < 4611686018427387904) (h0 : w0.heap.size ≤ gb) (hgb : gb < w.heap.size) (hB : Below w0.heap.size w0 w) :
    Calls Tryd.prog 79 #[.slice (some ⟨gb, 0, none⟩) xs.length cap, .func (.func 80) #[] #[]] w fun e w' => e = .returned (.tuple #[]) ∧ ∃ ys, ys.Perm xs ∧ ys.Pairwise (fun a b => ¬ b.f0.data.toList < a.f0.data.toList) ∧ Row3 w' gb ys ∧ Below w0.heap.size w0 w' ∧ w.heap.size ≤ w'.heap.size := by
  have hH := hR.holds
  have h := Go.Proofs.Tryd.sortRng enc32 (fun _ => rfl) (fun x v hv => by simp only [enc32, List.mem_cons, List.not_mem_nil, or_false] at hv; rcases hv with rfl | rfl | rfl <;> rfl) lowCmp lowCmp_swo 80 #[] gb 0 cap xs.toArray w (enters_of Tryd.func80 (by kernel_rfl) rfl) (fun m os dk hs x y => low_rng x y _) hH hgb (by simpa using hl)
  have e0 : xs.toArray.size = xs.length := by simp
  rw [e0] at h
  refine h.mono ?_
  rintro e w' ⟨rfl, d', n, os, hperm, hsort, rfl⟩
  have hsz : d'.size = xs.length := by have := hperm.1; simpa using this
  refine ⟨rfl, d'.toList, ?_, ?_, ?_, Below.trans hB (sort_below h0 hgb n d' os), Go.Proofs.size_sortWorldK_c enc32 3 w gb 0 n d' os⟩
  · have := hperm.2.2
    have e3 : d'.extract 0 xs.length = d' := by rw [← hsz]; simp
    have e4 : xs.toArray.extract 0 xs.length = xs.toArray := by rw [← e0]; simp
    rw [e3, e4] at this
    simpa using this
  · rw [List.pairwise_iff_getElem]
    intro i j hi hj hij
    have hi' : i < d'.size := by simpa using hi
    have hj' : j < d'.size := by simpa using hj
    have := hsort i j (Nat.zero_le _) hij (by rw [← hsz]; exact hj')
    rw [getElem!_pos d' i hi', getElem!_pos d' j hj'] at this
    intro hlt
    have h2 := (lowCmp_lt d'[j] d'[i]).2 (by simpa using hlt)
    rw [h2] at this
    cases this
  · exact Row3.of_holds (Go.Proofs.holdsK_sortWorldK_c enc32 3 w gb 0 _ d' n os hH hgb (by rw [hsz, e0]))
end Go.Proofs.YtpiifdbicibelaaDoor.PA
end
section
namespace Go.Proofs.YtpiifdbicibelaaDoor.PU
open Go.Proofs.YtpiifdbicibelaaDoor.PA
set_option linter.unusedSimpArgs false
set_option linter.unusedVariables false
/-- The bytes of a text. -/
abbrev bs (s : ByteArray) : List UInt8 := s.data.toList
abbrev mt : ByteArray := ⟨#[]⟩
theorem lt_irrefl' (a : List UInt8) : ¬ a < a := List.lt_irrefl a
theorem lt_tri (a b : List UInt8) : a < b ∨ a = b ∨ b < a := by
  by_cases h : a < b
  · exact .inl h
  · by_cases h2 : b < a
    · exact .inr (.inr h2)
    · exact .inr (.inl (List.le_antisymm (List.not_lt.1 h2) (List.not_lt.1 h)))
theorem bs_inj {a b : ByteArray} (h : bs a = bs b) : a = b := by
  cases a; cases b; simp [bs] at h; rw [h]
/-- Is no key in a range? -/
def emptyR (r : S32) : Bool := !r.f2 && !decide (bs r.f0 < bs r.f1)
def cleanR (r : S32) : S32 := if r.f2 then ⟨r.f0, mt, true⟩ else r
/-- One range more. -/
def stepU (out : List S32) (r0 : S32) : List S32 :=
  let r := cleanR r0
  match out.getLast? with
  | none => [r]
  | some l =>
    if l.f2 then out
    else if bs l.f1 < bs r.f0 then out ++ [r]
    else if r.f2 then out.dropLast ++ [⟨l.f0, mt, true⟩]
    else out.dropLast ++ [⟨l.f0, Go.Lib.maxS l.f1 r.f1, false⟩]
def keyLe (a b : S32) : Prop := ¬ bs b.f0 < bs a.f0
def sortedR (l : List S32) : Prop := l.Pairwise keyLe
theorem maxS_comm3 (a b c : ByteArray) : Go.Lib.maxS (Go.Lib.maxS a b) c = Go.Lib.maxS (Go.Lib.maxS a c) b := by
  unfold Go.Lib.maxS
  have t := fun x y : List UInt8 => lt_tri x y
  have tr : ∀ {x y z : List UInt8}, x < y → y < z → x < z := fun h g => List.lt_trans h g
  have asy : ∀ {x y : List UInt8}, x < y → ¬ y < x := fun h => List.lt_asymm h
  by_cases h1 : bs a < bs b <;> by_cases h2 : bs a < bs c <;> simp only [h1, h2, if_true, if_false]
  · rcases t (bs b) (bs c) with h | h | h
    · rw [if_pos h, if_neg (asy h)]
    · have := bs_inj h; subst this; simp [lt_irrefl']
    · rw [if_neg (asy h), if_pos h]
  · by_cases h3 : bs b < bs c
    · exact absurd (tr h1 h3) h2
    · simp [h3, h1]
  · by_cases h3 : bs c < bs b
    · exact absurd (tr h2 h3) h1
    · simp [h3, h2]
theorem maxS_comm (a b : ByteArray) : Go.Lib.maxS a b = Go.Lib.maxS b a := by
  unfold Go.Lib.maxS
  rcases lt_tri (bs a) (bs b) with h | h | h
  · rw [if_pos h, if_neg (List.lt_asymm h)]
  · have := bs_inj h; subst this; rfl
  · rw [if_neg (List.lt_asymm h), if_pos h]
theorem le_maxS (a b : ByteArray) : ¬ bs (Go.Lib.maxS a b) < bs a := by
  unfold Go.Lib.maxS; split
  · rename_i h; exact List.lt_asymm h
  · exact lt_irrefl' _
theorem not_lt_of (a b c : List UInt8) (h : ¬ b < a) (g : ¬ c < b) : ¬ c < a := fun k => by
  rcases lt_tri a b with x | x | x
  · rcases lt_tri b c with y | y | y
    · exact List.lt_asymm (List.lt_trans x y) k
    · subst y; exact List.lt_asymm x k
    · exact g y
  · subst x; exact g k
  · exact h x
/-- Two ranges that begin at one place may be taken in either order. -/
theorem stepU_comm (out : List S32) (a b : S32) (hk : a.f0 = b.f0) (ha : emptyR a = false) (hb : emptyR b = false) : stepU (stepU out a) b = stepU (stepU out b) a := by
  have ea : a.f2 = true ∨ (a.f2 = false ∧ bs a.f0 < bs a.f1) := by
    cases h : a.f2 <;> simp [emptyR, h] at ha ⊢; exact ha
  have eb : b.f2 = true ∨ (b.f2 = false ∧ bs b.f0 < bs b.f1) := by
    cases h : b.f2 <;> simp [emptyR, h] at hb ⊢; exact hb
  rcases List.eq_nil_or_concat out with rfl | ⟨o, l, rfl⟩
  · rcases ea with h1 | ⟨h1, g1⟩ <;> rcases eb with h2 | ⟨h2, g2⟩
    · simp [stepU, cleanR, h1, h2, hk]
    · have : ¬ bs b.f1 < bs b.f0 := List.lt_asymm g2
      simp [stepU, cleanR, h1, h2, hk, this]
    · have : ¬ bs a.f1 < bs b.f0 := by rw [← hk]; exact List.lt_asymm g1
      simp [stepU, cleanR, h1, h2, hk, this]
    · have t1 : ¬ bs a.f1 < bs b.f0 := by rw [← hk]; exact List.lt_asymm g1
      have t2 : ¬ bs b.f1 < bs b.f0 := List.lt_asymm g2
      simp [stepU, cleanR, h1, h2, hk, t1, t2, maxS_comm]
  · by_cases hl : l.f2 = true
    · simp [stepU, hl]
    · have hl' : l.f2 = false := by simpa using hl
      by_cases hlt : bs l.f1 < bs a.f0
      · have hlt2 : bs l.f1 < bs b.f0 := by rw [← hk]; exact hlt
        rcases ea with h1 | ⟨h1, g1⟩ <;> rcases eb with h2 | ⟨h2, g2⟩
        · simp [stepU, cleanR, h1, h2, hk, hl', hlt2]
        · have : ¬ bs b.f1 < bs b.f0 := List.lt_asymm g2
          simp [stepU, cleanR, h1, h2, hk, this, hl', hlt2]
        · have : ¬ bs a.f1 < bs b.f0 := by rw [← hk]; exact List.lt_asymm g1
          simp [stepU, cleanR, h1, h2, hk, this, hl', hlt2]
        · have t1 : ¬ bs a.f1 < bs b.f0 := by rw [← hk]; exact List.lt_asymm g1
          have t2 : ¬ bs b.f1 < bs b.f0 := List.lt_asymm g2
          simp [stepU, cleanR, h1, h2, hk, t1, t2, maxS_comm, hl', hlt2]
      · have hlt2 : ¬ bs l.f1 < bs b.f0 := by rw [← hk]; exact hlt
        have n1 : ¬ bs (Go.Lib.maxS l.f1 a.f1) < bs b.f0 := not_lt_of _ _ _ hlt2 (le_maxS _ _)
        have n2 : ¬ bs (Go.Lib.maxS l.f1 b.f1) < bs b.f0 := not_lt_of _ _ _ hlt2 (le_maxS _ _)
        rcases ea with h1 | ⟨h1, g1⟩ <;> rcases eb with h2 | ⟨h2, g2⟩
        · simp [stepU, cleanR, h1, h2, hk, hl', hlt2]
        · simp [stepU, cleanR, h1, h2, hk, hl', hlt2, n1, n2]
        · simp [stepU, cleanR, h1, h2, hk, hl', hlt2, n1, n2]
        · simp [stepU, cleanR, h1, h2, hk, hl', hlt2, n1, n2, maxS_comm3]
theorem fold_front : ∀ (p s : List S32) (a : S32) (out : List S32), (∀ x ∈ p, x.f0 = a.f0 ∧ emptyR x = false) → emptyR a = false → (p ++ a :: s).foldl stepU out = (a :: (p ++ s)).foldl stepU out
  | [], s, a, out, _, _ => rfl
  | x :: p, s, a, out, hp, ha => by
    have ih := fold_front p s a (stepU out x) (fun y hy => hp y (by simp [hy])) ha
    obtain ⟨h1, h2⟩ := hp x (by simp)
    simp only [List.cons_append, List.foldl_cons] at ih ⊢
    rw [ih, stepU_comm out x a h1 h2 ha]
/-- Sorted by where they begin, the ranges are united to the same, however equals stand. -/
theorem fold_perm : ∀ (n : Nat) (l m : List S32) (out : List S32), l.length = n → l.Perm m → sortedR l → sortedR m → (∀ x ∈ l, emptyR x = false) → l.foldl stepU out = m.foldl stepU out
  | 0, l, m, out, hn, hp, _, _, _ => by
    obtain rfl := List.length_eq_zero_iff.1 hn
    obtain rfl := (List.Perm.nil_eq hp).symm
    rfl
  | n + 1, [], m, out, hn, _, _, _, _ => by simp at hn
  | n + 1, a :: t, m, out, hn, hp, hl, hm, he => by
    have ham : a ∈ m := hp.subset (by simp)
    obtain ⟨p, s, rfl⟩ := List.append_of_mem ham
    have hpt : t.Perm (p ++ s) := (List.Perm.cons_inv ((hp.trans List.perm_middle)))
    have hka : ∀ x ∈ p, x.f0 = a.f0 ∧ emptyR x = false := by
      intro x hx
      have hxt : x ∈ t := hpt.symm.subset (by simp [hx])
      have h1 : keyLe a x := (List.pairwise_cons.1 hl).1 x hxt
      have h2 : keyLe x a := (List.pairwise_append.1 hm).2.2 x hx a (by simp)
      refine ⟨?_, he x (by simp [hxt])⟩
      unfold keyLe at h1 h2
      rcases lt_tri (bs x.f0) (bs a.f0) with h | h | h
      · exact absurd h h1
      · exact bs_inj h
      · exact absurd h h2
    rw [fold_front p s a out hka (he a (by simp))]
    simp only [List.foldl_cons]
    refine fold_perm n t (p ++ s) _ (by simpa using hn) hpt (List.pairwise_cons.1 hl).2 ?_ (fun x hx => he x (by simp [hx]))
    unfold sortedR at hm ⊢
    rw [List.pairwise_append] at hm ⊢
    exact ⟨hm.1, (List.pairwise_cons.1 hm.2.1).2, fun x hx y hy => hm.2.2 x hx y (by simp [hy])⟩
/-- Taking in by where they begin: behind all that do not begin later. -/
def insR (x : S32) : List S32 → List S32
  | [] => [x]
  | y :: l => if bs x.f0 < bs y.f0 then x :: y :: l else y :: insR x l
def sortR : List S32 → List S32 := fun l => l.foldl (fun acc x => insR x acc) []
theorem insR_perm (x : S32) : ∀ l, (insR x l).Perm (x :: l)
  | [] => List.Perm.refl _
  | y :: l => by
    unfold insR; split
    · exact List.Perm.refl _
    · exact ((insR_perm x l).cons y).trans (List.Perm.swap x y l)
theorem insR_sorted (x : S32) : ∀ l, sortedR l → sortedR (insR x l)
  | [], _ => by simp [insR, sortedR]
  | y :: l, h => by
    unfold insR
    have h' := List.pairwise_cons.1 h
    split
    · rename_i hlt
      refine List.pairwise_cons.2 ⟨fun z hz => ?_, h⟩
      rcases List.mem_cons.1 hz with rfl | hz
      · exact List.lt_asymm hlt
      · exact fun g => h'.1 z hz (List.lt_trans g hlt)
    · rename_i hlt
      refine List.pairwise_cons.2 ⟨fun z hz => ?_, insR_sorted x l h'.2⟩
      rcases List.mem_cons.1 ((insR_perm x l).subset hz) with rfl | hz
      · exact hlt
      · exact h'.1 z hz
theorem sortR_perm_aux : ∀ (l acc : List S32), (l.foldl (fun acc x => insR x acc) acc).Perm (acc ++ l) ∧ (sortedR acc → sortedR (l.foldl (fun acc x => insR x acc) acc))
  | [], acc => by simp
  | x :: l, acc => by
    obtain ⟨h1, h2⟩ := sortR_perm_aux l (insR x acc)
    refine ⟨h1.trans ?_, fun h => h2 (insR_sorted x acc h)⟩
    exact ((insR_perm x acc).append_right l).trans (List.perm_middle.symm)
theorem sortR_perm (l : List S32) : (sortR l).Perm l := by have := (sortR_perm_aux l []).1; rwa [List.nil_append] at this
theorem sortR_sorted (l : List S32) : sortedR (sortR l) := (sortR_perm_aux l []).2 (by simp [sortedR])
def neR (l : List S32) : List S32 := l.filter fun r => !emptyR r
/-- The least ranges of the same keys. -/
def unionR (l : List S32) : List S32 := (sortR (neR l)).foldl stepU []
theorem union_of {l m : List S32} (hp : m.Perm (neR l)) (hs : sortedR m) : m.foldl stepU [] = unionR l := by
  refine fold_perm _ m _ [] rfl (hp.trans (sortR_perm _).symm) hs (sortR_sorted _) fun x hx => ?_
  have := hp.subset hx
  unfold neR at this
  simpa using (List.mem_filter.1 this).2
theorem cleanR_f0 (r : S32) : (cleanR r).f0 = r.f0 := by unfold cleanR; split <;> rfl
end Go.Proofs.YtpiifdbicibelaaDoor.PU
end
section
namespace Go.Proofs.YtpiifdbicibelaaDoor.PA
open Go.RowKit Go.Proofs.YtpiifdbicibelaaDoorW.PrintWords Go.Proofs.YtpiifdbicibelaaDoorW.PrintLast Go.Proofs.YtpiifdbicibelaaDoorW.PrintMore
attribute [local go_sem] max2_int min2_int max_two min_two max_three min_three max_four min_four
set_option linter.unusedVariables false
set_option linter.unusedSimpArgs false
theorem eqA32 (d : Nat) (w : World) (x0 y0 : ByteArray) (x1 y1 : ByteArray) (x2 y2 : Bool) :
    (Op.equalIn (d + 2) 32 (.agg #[.string x0, .string x1, .bool x2]) (.agg #[.string y0, .string y1, .bool y2])).run Tryd.prog w = .ok (x0.toList == y0.toList && (x1.toList == y1.toList && (x2 == y2))) w := by
  refine eqA_of Tryd.underlying32 (by kernel_rfl) ?_
  refine eqf_cons (by rfl) (by go_simp; rfl) (by go_simp; rfl) (by go_simp) ?_
  refine eqf_cons (by rfl) (by go_simp; rfl) (by go_simp; rfl) (by go_simp) ?_
  exact eqf_last (by rfl) (by go_simp; rfl) (by go_simp; rfl) (by go_simp)
end Go.Proofs.YtpiifdbicibelaaDoor.PA
end
section
namespace Go.Proofs.YtpiifdbicibelaaDoor.PA
open Go.RowKit Go.Proofs.YtpiifdbicibelaaDoorW.PrintWords Go.Proofs.YtpiifdbicibelaaDoorW.PrintLast Go.Proofs.YtpiifdbicibelaaDoorW.PrintMore
attribute [local go_sem] max2_int min2_int max_two min_two max_three min_three max_four min_four
set_option linter.unusedVariables false
set_option linter.unusedSimpArgs false
attribute [local go_sem high] eqA32
def code_Empty.f (a0_0 : ByteArray) (a0_1 : ByteArray) (a0_2 : Bool) : Option (Bool) := if a0_2 = true then (some false) else (some (!(Op.bytesLess a0_0.toList a0_1.toList)))
set_option maxHeartbeats 8000000 in
set_option maxRecDepth 100000 in
theorem code_Empty.calls (a0_0 : ByteArray) (a0_1 : ByteArray) (a0_2 : Bool) (r : Bool) (w : World) (h : code_Empty.f a0_0 a0_1 a0_2 = some r) :
    Calls Tryd.prog 30 #[.agg #[.string a0_0, .string a0_1, .bool a0_2]] w fun e w' => e = .returned (.bool r) ∧ Below w.heap.size w w' := by
  have hu32 := Tryd.underlying32
  have HB := am (Below.refl w.heap.size w)
  have H : (if a0_2 = true then (some false) else (some (!(Op.bytesLess a0_0.toList a0_1.toList)))) = some r := h
  clear h
  by_cases c2 : a0_2 = true
  · subst c2
    have H1 : (some false) = some r := by rw [if_pos rfl] at H; exact H
    clear H
    have H := H1
    clear H1
    obtain rfl := Option.some.inj H
    go_enter Tryd.func30, Tryd.ntmps30
    go_wp2_with (first | ((with_reducible refine gate_dst (N := 1) rfl ?_); refine box_event rfl (N := 1) rfl (cs := #[.string a0_0, .string a0_1, .bool true]) (t := 32) gs ?_; intro gb320 hg w3 hbox hb; have BK320 := am (hbox); have GW320 := gw hg HB; have GE320 := gw hg HB; replace HB := sb HB hb; clear hb hbox hg; obtain ⟨Z4_0, Z4_1, Z4_2, Y4_0, Y4_1, Y4_2⟩ := bq3 BK320))
    go_ret
    exact ⟨er, bl HB⟩
  · replace c2 := Bool.eq_false_iff.mpr c2
    subst c2
    have H1 : (some (!(Op.bytesLess a0_0.toList a0_1.toList))) = some r := by rw [if_neg (show ¬ (false = true) by decide)] at H; exact H
    clear H
    have H := H1
    clear H1
    obtain rfl := Option.some.inj H
    go_enter Tryd.func30, Tryd.ntmps30
    go_wp2_with (first | ((with_reducible refine gate_dst (N := 1) rfl ?_); refine box_event rfl (N := 1) rfl (cs := #[.string a0_0, .string a0_1, .bool false]) (t := 32) gs ?_; intro gb320 hg w5 hbox hb; have BK320 := am (hbox); have GW320 := gw hg HB; have GE320 := gw hg HB; replace HB := sb HB hb; clear hb hbox hg; obtain ⟨Z6_0, Z6_1, Z6_2, Y6_0, Y6_1, Y6_2⟩ := bq3 BK320))
    go_ret
    exact ⟨er, bl HB⟩
def vellumref02_Empty.f (a0_0 : ByteArray) (a0_1 : ByteArray) (a0_2 : Bool) : Option (Bool) := if a0_2 = true then (some false) else (some (!(Op.bytesLess a0_0.toList a0_1.toList)))
set_option maxHeartbeats 8000000 in
set_option maxRecDepth 100000 in
theorem vellumref02_Empty.calls (a0_0 : ByteArray) (a0_1 : ByteArray) (a0_2 : Bool) (r : Bool) (w : World) (h : vellumref02_Empty.f a0_0 a0_1 a0_2 = some r) :
    Calls Tryd.prog 31 #[.agg #[.string a0_0, .string a0_1, .bool a0_2]] w fun e w' => e = .returned (.bool r) ∧ Below w.heap.size w w' := by
  have hu32 := Tryd.underlying32
  have HB := am (Below.refl w.heap.size w)
  have H : (if a0_2 = true then (some false) else (some (!(Op.bytesLess a0_0.toList a0_1.toList)))) = some r := h
  clear h
  by_cases c2 : a0_2 = true
  · subst c2
    have H1 : (some false) = some r := by rw [if_pos rfl] at H; exact H
    clear H
    have H := H1
    clear H1
    obtain rfl := Option.some.inj H
    go_enter Tryd.func31, Tryd.ntmps31
    go_wp2_with (first | ((with_reducible refine gate_dst (N := 1) rfl ?_); refine box_event rfl (N := 1) rfl (cs := #[.string a0_0, .string a0_1, .bool true]) (t := 32) gs ?_; intro gb321 hg w3 hbox hb; have BK321 := am (hbox); have GW321 := gw hg HB; have GE321 := gw hg HB; replace HB := sb HB hb; clear hb hbox hg; obtain ⟨Z4_0, Z4_1, Z4_2, Y4_0, Y4_1, Y4_2⟩ := bq3 BK321))
    go_ret
    exact ⟨er, bl HB⟩
  · replace c2 := Bool.eq_false_iff.mpr c2
    subst c2
    have H1 : (some (!(Op.bytesLess a0_0.toList a0_1.toList))) = some r := by rw [if_neg (show ¬ (false = true) by decide)] at H; exact H
    clear H
    have H := H1
    clear H1
    obtain rfl := Option.some.inj H
    go_enter Tryd.func31, Tryd.ntmps31
    go_wp2_with (first | ((with_reducible refine gate_dst (N := 1) rfl ?_); refine box_event rfl (N := 1) rfl (cs := #[.string a0_0, .string a0_1, .bool false]) (t := 32) gs ?_; intro gb321 hg w5 hbox hb; have BK321 := am (hbox); have GW321 := gw hg HB; have GE321 := gw hg HB; replace HB := sb HB hb; clear hb hbox hg; obtain ⟨Z6_0, Z6_1, Z6_2, Y6_0, Y6_1, Y6_2⟩ := bq3 BK321))
    go_ret
    exact ⟨er, bl HB⟩
end Go.Proofs.YtpiifdbicibelaaDoor.PA
end
section
namespace Go.Proofs.YtpiifdbicibelaaDoor.PA
open Go.RowKit Go.Proofs Go.Proofs.YtpiifdbicibelaaDoorW.PrintWords Go.Proofs.YtpiifdbicibelaaDoorW.PrintLast Go.Proofs.YtpiifdbicibelaaDoorW.PrintMore Go.Proofs.YtpiifdbicibelaaDoor.PU
set_option linter.unusedVariables false
set_option linter.unusedSimpArgs false
theorem bless_eq (a b : ByteArray) : Op.bytesLess a.toList b.toList = decide (bs a < bs b) := by
  rw [Go.Proofs.bytesLess_eq, Go.Lib.toList_data, Go.Lib.toList_data]
theorem empty_rng (W : World) (x : S32) : Calls Tryd.prog 30 (#[.agg (enc32 x).toArray] ++ #[]) W fun e w' => e = .returned (.bool (emptyR x)) ∧ Below W.heap.size W w' := by
  have h : code_Empty.f x.f0 x.f1 x.f2 = some (emptyR x) := by
    unfold code_Empty.f emptyR
    rw [bless_eq]
    cases x.f2 <;> simp
  exact code_Empty.calls x.f0 x.f1 x.f2 _ W h
theorem none_delf (g : Nat) (lb : Array Value) (w : World) (p : S32 → Bool) (eg : ∀ args w, (callFunc g args).run Tryd.prog w = .ok (.enter g args) w)
    (hp : ∀ (W : World) (x : S32), Calls Tryd.prog g (#[.agg (enc32 x).toArray] ++ lb) W fun e w' => e = .returned (.bool (p x)) ∧ Below W.heap.size W w') :
    Calls Tryd.prog 77 #[.slice none 0 0, .func (.func g) #[] lb] w fun e w' => e = .returned (.slice none 0 0) ∧ Below w.heap.size w w' := by
  have hidx := idxf_rng p g lb eg none [] 0 w ⟨rfl, Nat.zero_le _, fun h => absurd h (Nat.lt_irrefl 0)⟩ (fun W x hb => (hp W x).mono fun e w' h => ⟨h.1, Below.trans hb (h.2.mono hb.size)⟩)
  have e1 : idxF p [] = -1 := rfl
  rw [e1] at hidx
  replace hidx : Calls Tryd.prog 115 #[.slice none 0 0, .func (.func g) #[] lb] w fun e w' => e = .returned (.int .i64 (-1)) ∧ Below w.heap.size w w' := hidx
  clear hp e1
  go_enter Tryd.func77, Tryd.ntmps77
  go_wp2_with (go_at_call 115; refine hidx.mono ?_; rintro e w' ⟨rfl, hb'⟩)
  go_ret
  exact ⟨rfl, hb'⟩
theorem none_sort (w : World) (fv : Value) : Calls Tryd.prog 79 #[.slice none 0 0, fv] w fun e w' => e = .returned (.tuple #[]) ∧ w = w' :=
  (Go.Proofs.AnyF.slices_SortFunc_none Go.Proofs.Tryd.sortR none 0 fv w).mono fun e w' h => ⟨h.1, h.2.symm⟩
set_option maxHeartbeats 4000000 in
set_option maxRecDepth 100000 in
theorem union_nil (c0 : Nat) (w : World) : Calls Tryd.prog 49 #[.slice none 0 c0] w fun e w' => e = .returned (.slice none 0 0) ∧ Below w.heap.size w w' := by
  have hcl := clone_rng [] none c0 w ⟨rfl, Nat.zero_le _, fun h => absurd h (Nat.lt_irrefl 0)⟩ (by decide)
  replace hcl : Calls Tryd.prog 78 #[.slice none 0 c0] w fun e w' => e = .returned (.slice none 0 0) ∧ w = w' := hcl.mono fun e w' h => by
    rcases h with ⟨_, h1, h2⟩ | ⟨h0, _⟩
    · exact ⟨h1, h2.symm⟩
    · exact absurd rfl h0
  have hdel := none_delf 30 #[] w emptyR (enters_of Tryd.func30 (by kernel_rfl) rfl) empty_rng
  go_enter Tryd.func49, Tryd.ntmps49
  go_wp2_with (first | (go_at_call 78; refine hcl.mono ?_; rintro e w' ⟨rfl, rfl⟩) | (go_at_call 77; refine hdel.mono ?_; rintro e w2 ⟨rfl, hb'⟩) | (go_at_call 79; refine (none_sort _ _).mono ?_; rintro e w' ⟨rfl, rfl⟩))
  go_loopg [4, 6, 7, 15] 0 (fun gg s4 s6 s7 s15 wr => s4 = .slice none 0 0 ∧ s15 = .int .i64 0 ∧ Aside0 (Below w.heap.size w wr))
  case atStart => exact ⟨rfl, rfl, ⟨by assumption⟩⟩
  case round =>
    obtain ⟨rfl, rfl, HB⟩ := hrel
    go_wp2
    go_ret
    exact ⟨rfl, HB.out⟩
/-- append(v, p), p being boxed as_ one element. -/
theorem app3 {ops : Array Oper} {rest : List Oper} {o : Oper} {a : Act} {Q : Exit → Act → World → Prop} {w0 W : World} {base n0 : Nat} (hgd : o.guard = none) (s x : Operand) (ho : o.op = .call { callee := .builtin .append, args := #[s, x], argTypes := #[53, 53] })
    (v : Value) (xs : List S32) (p : S32) (hs : a.eval s = v) (hx : a.eval x = .slice (some ⟨n0, 0, none⟩) 1 1) (hn0 : n0 = W.heap.size)
    (HO : Kd.R k32 32 W base (fun _ => True) v xs) (HB : Below base w0 W) (hbase : base ≤ W.heap.size) (hl : (xs.length + 1) * 40 ≤ 140737488355328)
    (h : ∀ v1 w1, Kd.R k32 32 w1 base (fun _ => True) v1 (xs ++ [p]) → Below base w0 w1 → wpList Tryd.prog ops Q rest (a.put o.dst v1) w1) :
    wpList Tryd.prog ops Q (o :: rest) a (W.alloc (.cells (enc32 p).toArray 32)) := by
  subst hn0
  refine Kd.R_append k32 (w0 := w0) (W := W) base hgd s x 53 32 (.agg #[(.string ⟨#[]⟩), (.string ⟨#[]⟩), (.bool false)]) 40 ho Tryd.underlying53 info32U rfl (by decide) (by omega) v xs p (enc32 p) (fun _ => True) (fun _ => False) hs hx (k32_mkM _ _ _ p) (fun _ hk => hk.elim) (fun _ _ => trivial) HO HB hbase hl ?_
  intro v1 w1 ho hb _ _
  exact h v1 w1 ho hb
theorem Row3.alloc {w : World} {g : Nat} {xs : List S32} (h : Row3 w g xs) (hg : g < w.heap.size) (o : Obj) : Row3 (w.alloc o) g xs := h.same (by show (w.heap.push o)[g]? = w.heap[g]?; rw [Array.getElem?_push, if_neg (Nat.ne_of_lt hg)])
theorem size_alloc1 (w : World) (o : Obj) : w.heap.size + 1 = (w.alloc o).heap.size := (Array.size_push o).symm
theorem own3_head {w : World} {base : Nat} {v : Value} {xs : List S32} (h : Kd.R k32 32 w base (fun _ => True) v xs) (hn : xs ≠ []) : ∃ g cap, v = .slice (some ⟨g, 0, none⟩) xs.length cap := by
  obtain ⟨_, inner, ⟨hlen, hor⟩, hreps⟩ := h
  rcases hor with ⟨_, e⟩ | ⟨g', cap', cur, e, _⟩
  · exact absurd (List.length_eq_zero_iff.1 e) hn
  · exact ⟨g', cap', e⟩
theorem stepU_len (out : List S32) (r : S32) : (stepU out r).length ≤ out.length + 1 := by
  rcases List.eq_nil_or_concat out with rfl | ⟨o, l, rfl⟩
  · simp [stepU]
  · simp only [stepU, List.getLast?_concat]
    (repeat' split) <;> simp
theorem fold_len : ∀ (l out : List S32), (l.foldl stepU out).length ≤ out.length + l.length
  | [], out => by simp
  | a :: l, out => by
    have h1 := fold_len l (stepU out a)
    have h2 := stepU_len out a
    simp only [List.foldl_cons, List.length_cons]
    omega
set_option maxHeartbeats 8000000 in
set_option maxRecDepth 100000 in
theorem union_some (l0 : List S32) (ad : Addr) (c0 : Nat) (w : World) (hC : Kd.C k32 w (some ad) l0.length l0) (hl : l0.length * 40 ≤ 140737488355328) :
    Calls Tryd.prog 49 #[.slice (some ad) l0.length c0] w fun e w' => ∃ v, e = .returned v ∧ Kd.R k32 32 w' w.heap.size (fun _ => True) v (unionR l0) ∧ Below w.heap.size w w' := by
  have hcl := clone_rng l0 (some ad) c0 w hC hl
  replace hcl : Calls Tryd.prog 78 #[.slice (some ad) l0.length c0] w fun e w' => ∃ g cap, e = .returned (.slice (some ⟨g, 0, none⟩) l0.length cap) ∧ w.heap.size ≤ g ∧ g < w'.heap.size ∧ l0.length ≤ cap ∧ Row3 w' g l0 ∧ Below w.heap.size w w' := hcl.mono fun e w' h => by
    rcases h with ⟨h0, _⟩ | ⟨_, h⟩
    · cases h0
    · exact h
  have hl2 : l0.length ≤ 4611686018427387904 := by omega
  have hfl : (neR l0).length ≤ l0.length := List.length_filter_le _ _
  have hdel := fun g cap w1 => delf_rng emptyR 30 #[] (enters_of Tryd.func30 (by kernel_rfl) rfl) w g cap l0 w1
  have hsort := fun g cap w1 => sorted_rng w g cap (neR l0) w1
  clear hC
  go_enter Tryd.func49, Tryd.ntmps49
  go_wp2_with (first | (go_at_call 78; refine hcl.mono ?_; rintro e w1 ⟨g, cap, rfl, hg, hgw, hcap, hR1, hb1⟩) | (go_at_call 77; refine (hdel _ _ _ hR1 hl2 hcap hg hb1 empty_rng).mono ?_; rintro e w2 ⟨rfl, hR2, hb2, hz2⟩; have hgw2 := Nat.lt_of_lt_of_le hgw hz2) | (go_at_call 79; refine (hsort _ _ _ hR2 (by omega) hg hgw2 hb2).mono ?_; rintro e w3 ⟨rfl, ys, hperm, hsrt, hR3, hb3, hz3⟩))
  have hn : ys.length = (List.filter (fun x => !emptyR x) l0).length := hperm.length_eq
  rw [← hn]
  have hun := union_of hperm hsrt
  have hyl : ys.length ≤ l0.length := by rw [hn]; exact hfl
  have HY := Aside0.mk hR3
  have HB3 := Aside0.mk hb3
  have HU := Aside0.mk hun
  have hgw3 : g < w3.heap.size := Nat.lt_of_lt_of_le hgw2 hz3
  clear hcl hdel hsort hR1 hb1 hR2 hb2 hz2 hgw2 hR3 hb3 hz3 hperm hsrt hun hn hfl hgw hcap
  go_loopg [4, 6, 7, 15] ys.length (fun gg s4 s6 s7 s15 wr => ∃ k : Nat, s15 = .int .i64 k ∧ k ≤ ys.length ∧ Aside0 (ys.length - k ≤ gg) ∧ Aside0 (Kd.R k32 32 wr (g + 1) (fun _ => True) s4 ((ys.take k).foldl stepU [])) ∧ Aside0 (Below (g + 1) w3 wr))
  case atStart => exact ⟨0, rfl, Nat.zero_le _, ⟨by omega⟩, ⟨Kd.R_nil _ _ _ _ _⟩, ⟨Below.refl _ _⟩⟩
  case round =>
    obtain ⟨k, rfl, hk, HM, HO, HB⟩ := hrel
    by_cases hlt : k < ys.length
    · have hltz : (k : Int) < (ys.length : Int) := by omega
      obtain ⟨y, hy⟩ : ∃ y, ys[k]? = some y := ⟨_, List.getElem?_eq_getElem hlt⟩
      obtain ⟨cx0, cx1, cx2, fx0, fx1, fx2⟩ := (HY.out.same (HB.out.block g (Nat.lt_succ_self g))).at0 hy
      have hstep : (ys.take (k + 1)).foldl stepU [] = stepU ((ys.take k).foldl stepU []) y := by rw [List.take_add_one, hy, List.foldl_append]; rfl
      have hLl : ((ys.take k).foldl stepU []).length ≤ k := by have := fold_len (ys.take k) []; rw [List.length_take] at this; simp at this; omega
      generalize (ys.take k).foldl stepU [] = L at HO hstep hLl
      have HS := Aside0.mk hstep
      have hzr : g + 1 ≤ wr.heap.size := Nat.le_trans hgw3 HB.out.size
      clear hstep hy
      obtain ⟨A, c, rfl⟩ := Kd.R_slice HO.out
      rcases List.eq_nil_or_concat L with rfl | ⟨o, l, eL⟩
      · have hl40 : (([] : List S32).length + 1) * 40 ≤ 140737488355328 := by decide
        cases hq : y.f2 with
        | true =>
          rw [hq] at cx2
          have hs : stepU [] y = [] ++ [⟨y.f0, ⟨#[]⟩, true⟩] := by unfold stepU cleanR; rw [if_pos hq]; rfl
          go_wp2_with ((with_reducible refine gate_builtin (b := .append) (xs := #[.tmp 25, .tmp 27]) rfl ?_); at_builtin; refine app3 (w0 := w3) (base := g + 1) rfl (.tmp 25) (.tmp 27) rfl (.slice A 0 c) ([] : List S32) (⟨y.f0, ⟨#[]⟩, true⟩ : S32) rfl rfl (size_alloc1 _ _) (Kd.R_alloc HO.out _) (HB.out.alloc hzr _) (Nat.le_trans hzr (by rw [← size_alloc1]; exact Nat.le_succ _)) hl40 ?_; intro v1 w4 ho hb)
          go_roundg (ys.length - (k + 1))
          case measure => have := HM.out; omega
          case rel => exact ⟨k + 1, by go_num, hlt, ⟨Nat.le_refl _⟩, ⟨by rw [HS.out, hs]; exact ho⟩, ⟨hb⟩⟩
        | false =>
          rw [hq] at cx2
          have hs : stepU [] y = [] ++ [⟨y.f0, y.f1, false⟩] := by unfold stepU cleanR; rw [if_neg (by rw [hq]; decide)]; cases y; cases hq; rfl
          go_wp2_with ((with_reducible refine gate_builtin (b := .append) (xs := #[.tmp 25, .tmp 27]) rfl ?_); at_builtin; refine app3 (w0 := w3) (base := g + 1) rfl (.tmp 25) (.tmp 27) rfl (.slice A 0 c) ([] : List S32) (⟨y.f0, y.f1, false⟩ : S32) rfl rfl (size_alloc1 _ _) (Kd.R_alloc HO.out _) (HB.out.alloc hzr _) (Nat.le_trans hzr (by rw [← size_alloc1]; exact Nat.le_succ _)) hl40 ?_; intro v1 w4 ho hb)
          go_roundg (ys.length - (k + 1))
          case measure => have := HM.out; omega
          case rel => exact ⟨k + 1, by go_num, hlt, ⟨Nat.le_refl _⟩, ⟨by rw [HS.out, hs]; exact ho⟩, ⟨hb⟩⟩
      · rw [List.concat_eq_append] at eL
        subst eL
        obtain ⟨g2, c2, e2⟩ := own3_head HO.out (by simp)
        rw [e2] at HO ⊢
        clear e2
        have hlen1 : (o ++ [l]).length = o.length + 1 := by simp
        have HP := Aside0.mk (own3_parts HO.out)
        have hg2 : g2 < wr.heap.size := HP.out.2.2.2.2.1.lt (by simp)
        have hD := fun ob => (HP.out.2.2.2.2.1.alloc hg2 ob).at0 (i := o.length) (x := l) (by simp)
        have dx0 := fun ob => (hD ob).1
        have dx1 := fun ob => (hD ob).2.1
        have dx2 := fun ob => (hD ob).2.2.1
        have gx1 := fun ob => (hD ob).2.2.2.2.1
        have gx2 := fun ob => (hD ob).2.2.2.2.2
        clear hD
        rw [hlen1] at HO ⊢ hLl
        have hwi : True → wrap64 (((o.length + 1 : Nat) : Int) - 1) = (o.length : Int) := fun _ => by rw [Go.IntWalk.wrap64_in _ (by omega)]; omega
        have hil : (o.length : Int) < ((o.length + 1 : Nat) : Int) := by omega
        replace hwi := hwi trivial
        cases hq : y.f2 with
        | true =>
          rw [hq] at cx2
          cases hql : l.f2 with
          | true =>
            rw [hql] at dx2
            have hs : stepU (o ++ [l]) y = o ++ [l] := by unfold stepU; rw [List.getLast?_concat]; simp only [hql, if_true]
            go_wp2
            go_roundg (ys.length - (k + 1))
            case measure => have := HM.out; omega
            case rel => exact ⟨k + 1, by go_num, hlt, ⟨Nat.le_refl _⟩, ⟨by rw [HS.out, hs]; exact Kd.R_alloc HO.out _⟩, ⟨HB.out.alloc hzr _⟩⟩
          | false =>
            rw [hql] at dx2
            by_cases hc : bs l.f1 < bs y.f0
            · have hcm : Op.bytesLess l.f1.toList y.f0.toList = true := by rw [bless_eq]; exact decide_eq_true hc
              have hs : stepU (o ++ [l]) y = (o ++ [l]) ++ [⟨y.f0, ⟨#[]⟩, true⟩] := by unfold stepU cleanR; rw [List.getLast?_concat]; simp only [hql, hq, if_true, if_false, hc, Bool.false_eq_true]
              have hl40 : ((o ++ [l]).length + 1) * 40 ≤ 140737488355328 := by rw [hlen1]; omega
              go_wp2
              go_quiet (fail)
              go_wp2_with ((with_reducible refine gate_builtin (b := .append) (xs := #[.tmp 57, .tmp 59]) rfl ?_); at_builtin; refine app3 (w0 := w3) (base := g + 1) rfl (.tmp 57) (.tmp 59) rfl (.slice (some ⟨g2, 0, none⟩) (o.length + 1) c2) (o ++ [l]) (⟨y.f0, ⟨#[]⟩, true⟩ : S32) rfl rfl (size_alloc1 _ _) (Kd.R_drewN (Kd.R_alloc HO.out _) _) (pw_below_drewN (HB.out.alloc hzr _) _) (Nat.le_trans hzr (by rw [show ∀ (W : World) q, (W.drewN q).heap.size = W.heap.size from fun _ _ => rfl, ← size_alloc1]; exact Nat.le_succ _)) hl40 ?_; intro v1 w4 ho hb)
              go_roundg (ys.length - (k + 1))
              case measure => have := HM.out; omega
              case rel => exact ⟨k + 1, by go_num, hlt, ⟨Nat.le_refl _⟩, ⟨by rw [HS.out, hs]; exact ho⟩, ⟨hb⟩⟩
            · have hcm : Op.bytesLess l.f1.toList y.f0.toList = false := by rw [bless_eq]; exact decide_eq_false hc
              go_wp2
              go_quiet (fail)
              go_wp2
              have hset : ∀ z l : S32, (o ++ [l]).set o.length z = o ++ [z] := by intro z l; simp
              have hs : stepU (o ++ [l]) y = o ++ [⟨l.f0, ⟨#[]⟩, true⟩] := by unfold stepU cleanR; rw [List.getLast?_concat, List.dropLast_concat]; simp only [hql, hq, if_true, if_false, hc, Bool.false_eq_true]
              have hO1 := put3 (Kd.R_drewN (Kd.R_alloc HO.out (.cells #[.string y.f0, .string ⟨#[]⟩, .bool true] 32)) nq) (i := o.length) (x := l) (by simp) ⟨l.f0, l.f1, true⟩ 2 (.bool true) rfl (by intro j hj; rcases j with _ | _ | _ | j <;> first | rfl | exact absurd rfl hj)
              rw [hset] at hO1
              have hO2 := put3 hO1 (i := o.length) (x := ⟨l.f0, l.f1, true⟩) (by simp) ⟨l.f0, ⟨#[]⟩, true⟩ 1 (.string ⟨#[]⟩) rfl (by intro j hj; rcases j with _ | _ | _ | j <;> first | rfl | exact absurd rfl hj)
              rw [hset] at hO2
              have hge := HP.out.2.1
              have hB2 := ((pw_below_drewN (HB.out.alloc hzr (.cells #[.string y.f0, .string ⟨#[]⟩, .bool true] 32)) nq).setCell (p := ⟨g2, o.length * 3 + 2, none⟩) hge (.bool true)).setCell (p := ⟨g2, o.length * 3 + 1, none⟩) hge (.string ⟨#[]⟩)
              go_roundg (ys.length - (k + 1))
              case measure => have := HM.out; omega
              case rel => exact ⟨k + 1, by go_num, hlt, ⟨Nat.le_refl _⟩, ⟨by rw [HS.out, hs]; exact hO2⟩, ⟨hB2⟩⟩
        | false =>
          rw [hq] at cx2
          cases hql : l.f2 with
          | true =>
            rw [hql] at dx2
            have hs : stepU (o ++ [l]) y = o ++ [l] := by unfold stepU; rw [List.getLast?_concat]; simp only [hql, if_true]
            go_wp2
            go_roundg (ys.length - (k + 1))
            case measure => have := HM.out; omega
            case rel => exact ⟨k + 1, by go_num, hlt, ⟨Nat.le_refl _⟩, ⟨by rw [HS.out, hs]; exact Kd.R_alloc HO.out _⟩, ⟨HB.out.alloc hzr _⟩⟩
          | false =>
            rw [hql] at dx2
            by_cases hc : bs l.f1 < bs y.f0
            · have hcm : Op.bytesLess l.f1.toList y.f0.toList = true := by rw [bless_eq]; exact decide_eq_true hc
              have hs : stepU (o ++ [l]) y = (o ++ [l]) ++ [⟨y.f0, y.f1, false⟩] := by unfold stepU cleanR; rw [List.getLast?_concat]; simp only [hql, hq, if_true, if_false, hc, Bool.false_eq_true]; cases y; cases hq; rfl
              have hl40 : ((o ++ [l]).length + 1) * 40 ≤ 140737488355328 := by rw [hlen1]; omega
              go_wp2
              go_quiet (fail)
              go_wp2_with ((with_reducible refine gate_builtin (b := .append) (xs := #[.tmp 57, .tmp 59]) rfl ?_); at_builtin; refine app3 (w0 := w3) (base := g + 1) rfl (.tmp 57) (.tmp 59) rfl (.slice (some ⟨g2, 0, none⟩) (o.length + 1) c2) (o ++ [l]) (⟨y.f0, y.f1, false⟩ : S32) rfl rfl (size_alloc1 _ _) (Kd.R_drewN (Kd.R_alloc HO.out _) _) (pw_below_drewN (HB.out.alloc hzr _) _) (Nat.le_trans hzr (by rw [show ∀ (W : World) q, (W.drewN q).heap.size = W.heap.size from fun _ _ => rfl, ← size_alloc1]; exact Nat.le_succ _)) hl40 ?_; intro v1 w4 ho hb)
              go_roundg (ys.length - (k + 1))
              case measure => have := HM.out; omega
              case rel => exact ⟨k + 1, by go_num, hlt, ⟨Nat.le_refl _⟩, ⟨by rw [HS.out, hs]; exact ho⟩, ⟨hb⟩⟩
            · have hcm : Op.bytesLess l.f1.toList y.f0.toList = false := by rw [bless_eq]; exact decide_eq_false hc
              go_wp2
              go_quiet (fail)
              go_wp2
              go_region
              go_wp2
              have hset : ∀ z l : S32, (o ++ [l]).set o.length z = o ++ [z] := by intro z l; simp
              have hs : stepU (o ++ [l]) y = o ++ [⟨l.f0, Go.Lib.maxS l.f1 y.f1, l.f2⟩] := by unfold stepU cleanR; rw [List.getLast?_concat, List.dropLast_concat]; simp only [hql, hq, if_true, if_false, hc, Bool.false_eq_true]
              have hO1 := put3 (Kd.R_drewN (Kd.R_alloc HO.out (.cells #[.string y.f0, .string y.f1, .bool false] 32)) (nq + 1)) (i := o.length) (x := l) (by simp) ⟨l.f0, Go.Lib.maxS l.f1 y.f1, l.f2⟩ 1 (.string (Go.Lib.maxS l.f1 y.f1)) rfl (by intro j hj; rcases j with _ | _ | _ | j <;> first | rfl | exact absurd rfl hj)
              rw [hset] at hO1
              have hge := HP.out.2.1
              have hB2 := (pw_below_drewN (HB.out.alloc hzr (.cells #[.string y.f0, .string y.f1, .bool false] 32)) (nq + 1)).setCell (p := ⟨g2, o.length * 3 + 1, none⟩) hge (.string (Go.Lib.maxS l.f1 y.f1))
              go_roundg (ys.length - (k + 1))
              case measure => have := HM.out; omega
              case rel => exact ⟨k + 1, by go_num, hlt, ⟨Nat.le_refl _⟩, ⟨by rw [HS.out, hs]; exact hO1⟩, ⟨hB2⟩⟩
    · obtain rfl : k = ys.length := by omega
      have hltz : ¬ (ys.length : Int) < (ys.length : Int) := by omega
      have hfin := HO.out
      rw [List.take_length, HU.out] at hfin
      go_wp2
      go_ret
      exact ⟨_, rfl, Kd.R_lower hfin (Nat.le_succ_of_le hg), Below.trans HB3.out (HB.out.mono (Nat.le_succ_of_le hg))⟩
def code_Union.f (l0 : List S32) : Option (List S32) := if l0.length * 40 ≤ 140737488355328 then some (unionR l0) else none
theorem code_Union.calls (A0 : Option Addr) (c0 : Nat) (l0 : List S32) (r : List S32) (w : World) (hr0 : Kd.C k32 w A0 l0.length l0) (hc0 : l0.length ≤ c0) (h : code_Union.f l0 = some r) :
    Calls Tryd.prog 49 #[.slice A0 l0.length c0] w fun e w' => ∃ v0_, e = .returned v0_ ∧ Kd.R k32 32 w' w.heap.size (fun _ => True) v0_ r ∧ Below w.heap.size w w' := by
  unfold code_Union.f at h
  by_cases hl : l0.length * 40 ≤ 140737488355328
  · rw [if_pos hl] at h
    obtain rfl := Option.some.inj h
    cases A0 with
    | some ad => exact union_some l0 ad c0 w hr0 hl
    | none =>
      obtain rfl : l0 = [] := by
        rcases Nat.eq_zero_or_pos l0.length with h0 | h0
        · exact List.length_eq_zero_iff.1 h0
        · obtain ⟨_, h1, _⟩ := hr0.2.2 h0
          cases h1
      exact (union_nil c0 w).mono fun e w' h => ⟨_, h.1, Kd.R_nil _ _ _ _ _, h.2⟩
  · rw [if_neg hl] at h
    cases h
end Go.Proofs.YtpiifdbicibelaaDoor.PA
end
section
namespace Go.Proofs.YtpiifdbicibelaaDoor.PA
open Go.RowKit Go.Proofs.YtpiifdbicibelaaDoorW.PrintWords Go.Proofs.YtpiifdbicibelaaDoorW.PrintLast Go.Proofs.YtpiifdbicibelaaDoorW.PrintMore
attribute [local go_sem] max2_int min2_int max_two min_two max_three min_three max_four min_four
set_option linter.unusedVariables false
set_option linter.unusedSimpArgs false
attribute [local go_sem high] eqA32
def vellumref02_Same.l0 : Nat → List (S32) → List (S32) → Int → Option (Bool)
  | 0, _, _, _ => none
  | k + 1, x0, x1, x5 => if x5 < (x0.length : Int) then (if 0 ≤ x5 then (if x5 < (x1.length : Int) then (if (!((((rd_T32 x0 x5).f0).toList) == (((rd_T32 x1 x5).f0).toList)) || (!((((rd_T32 x0 x5).f1).toList) == (((rd_T32 x1 x5).f1).toList)) || (!(((rd_T32 x0 x5).f2) == ((rd_T32 x1 x5).f2))))) = true then (some false) else (vellumref02_Same.l0 k x0 x1 (wrap64 (x5 + 1)))) else (none)) else (none)) else (some true)
def vellumref02_Same.f (k : Nat) (l0 : List (S32)) (l1 : List (S32)) : Option (Bool) := if (l0.length : Int) = (l1.length : Int) then (vellumref02_Same.l0 k l0 l1 0) else (some false)
set_option maxHeartbeats 8000000 in
set_option maxRecDepth 100000 in
theorem vellumref02_Same.calls (k : Nat) (A0 : Option Addr) (c0 : Nat) (l0 : List (S32)) (A1 : Option Addr) (c1 : Nat) (l1 : List (S32)) (r : Bool) (w : World) (hr0 : Kd.C k32 w A0 l0.length l0) (hc0 : l0.length ≤ c0) (hr1 : Kd.C k32 w A1 l1.length l1) (hc1 : l1.length ≤ c1) (h : vellumref02_Same.f k l0 l1 = some r) :
    Calls Tryd.prog 48 #[.slice A0 l0.length c0, .slice A1 l1.length c1] w fun e w' => e = .returned (.bool r) ∧ Drawn0 w w' := by
  have hu32 := Tryd.underlying32
  have HR0 := am hr0
  have HC0 := am hc0
  clear hr0 hc0
  have HR1 := am hr1
  have HC1 := am hc1
  clear hr1 hc1
  have H : (if (l0.length : Int) = (l1.length : Int) then (vellumref02_Same.l0 k l0 l1 0) else (some false)) = some r := h
  clear h
  by_cases c3 : (l0.length : Int) = (l1.length : Int)
  · rw [if_pos c3] at H
    have c3b0 : ((l0.length : Int) == (l1.length : Int)) = true := beq_iff_eq.mpr c3
    have c3b1 : ((l0.length : Int) != (l1.length : Int)) = false := bne_eq_false_iff_eq.mpr c3
    have c3b2 : (l0.length == l1.length) = true := by first | simpa using c3 | (simp at c3 ⊢; omega)
    clear c3
    have H' := am H
    clear H
    go_enter Tryd.func48, Tryd.ntmps48
    go_wp2
    repeat (go_quiet (fail); try go_wp2)
    go_loopg [5] k (fun kq v5 w' => ∃ (x5_1 : Int), v5 = .int .i64 x5_1 ∧ Aside0 (vellumref02_Same.l0 kq l0 l1 x5_1 = some r) ∧ Aside0 (kq ≤ k) ∧ Drawn0 w w')
    case atStart => exact ⟨(0), eb, H', ⟨Nat.le_refl _⟩, by repeat (first | exact Drawn0.refl _ | apply Drawn0.step)⟩
    case round =>
      clear H'
      try clear c1
      try clear p2
      try clear c3
      try clear c3b0
      try clear c3b1
      try clear c3b2
      obtain ⟨x5_1, rfl, HA, HK1, ⟨m1, rfl⟩⟩ := hrel
      cases gk with
      | zero => exact absurd HA.out (by simp [vellumref02_Same.l0])
      | succ k1 =>
        have H := HA.out
        clear HA
        simp only [vellumref02_Same.l0] at H
        by_cases c4 : x5_1 < (l0.length : Int)
        · rw [if_pos c4] at H
          have c4b0 : decide (x5_1 < (l0.length : Int)) = true := decide_eq_true c4
          clear c4
          by_cases c5 : 0 ≤ x5_1
          · rw [if_pos c5] at H
            have c5b0 : decide (0 ≤ x5_1) = true := decide_eq_true c5
            clear c5
            by_cases c6 : x5_1 < (l1.length : Int)
            · rw [if_pos c6] at H
              have c6b0 : decide (x5_1 < (l1.length : Int)) = true := decide_eq_true c6
              clear c6
              by_cases c7 : (!((((rd_T32 l0 x5_1).f0).toList) == (((rd_T32 l1 x5_1).f0).toList)) || (!((((rd_T32 l0 x5_1).f1).toList) == (((rd_T32 l1 x5_1).f1).toList)) || (!(((rd_T32 l0 x5_1).f2) == ((rd_T32 l1 x5_1).f2))))) = true
              · rw [if_pos c7] at H
                have c7b0 : (!((((rd_T32 l0 x5_1).f0).toList) == (((rd_T32 l1 x5_1).f0).toList)) || (!((((rd_T32 l0 x5_1).f1).toList) == (((rd_T32 l1 x5_1).f1).toList)) || (!(((rd_T32 l0 x5_1).f2) == ((rd_T32 l1 x5_1).f2))))) = true := c7
                clear c7
                obtain rfl := Option.some.inj H
                have p1030 : 0 ≤ (x5_1 : Int) := oda
                have q1030 : x5_1 < (l0.length : Int) := oda
                obtain ⟨ad1030, e1030, hx1030_0, hx1030_1, hx1030_2⟩ := at_T32 HR0.out x5_1 p1030 q1030
                cases e1030
                replace p1030 := eq_true p1030
                replace q1030 := eq_true q1030
                have p1031 : 0 ≤ (x5_1 : Int) := oda
                have q1031 : x5_1 < (l1.length : Int) := oda
                obtain ⟨ad1031, e1031, hx1031_0, hx1031_1, hx1031_2⟩ := at_T32 HR1.out x5_1 p1031 q1031
                cases e1031
                replace p1031 := eq_true p1031
                replace q1031 := eq_true q1031
                go_wp2
                repeat (go_quiet (fail); try go_wp2)
                go_ret
                exact ⟨eb, by repeat (first | exact Drawn0.refl _ | apply Drawn0.step)⟩
              · rw [if_neg c7] at H
                have c7b0 : (!((((rd_T32 l0 x5_1).f0).toList) == (((rd_T32 l1 x5_1).f0).toList)) || (!((((rd_T32 l0 x5_1).f1).toList) == (((rd_T32 l1 x5_1).f1).toList)) || (!(((rd_T32 l0 x5_1).f2) == ((rd_T32 l1 x5_1).f2))))) = false := by simpa using c7
                clear c7
                have H' := am H
                clear H
                have p1030 : 0 ≤ (x5_1 : Int) := oda
                have q1030 : x5_1 < (l0.length : Int) := oda
                obtain ⟨ad1030, e1030, hx1030_0, hx1030_1, hx1030_2⟩ := at_T32 HR0.out x5_1 p1030 q1030
                cases e1030
                replace p1030 := eq_true p1030
                replace q1030 := eq_true q1030
                have p1031 : 0 ≤ (x5_1 : Int) := oda
                have q1031 : x5_1 < (l1.length : Int) := oda
                obtain ⟨ad1031, e1031, hx1031_0, hx1031_1, hx1031_2⟩ := at_T32 HR1.out x5_1 p1031 q1031
                cases e1031
                replace p1031 := eq_true p1031
                replace q1031 := eq_true q1031
                go_wp2
                repeat (go_quiet (fail); try go_wp2)
                go_roundg k1
                case measure => have := HK1.out; omega
                case rel => exact ⟨(wrap64 (x5_1 + 1)), eb, H', ⟨by have := HK1.out; omega⟩, by repeat (first | exact Drawn0.refl _ | apply Drawn0.step)⟩
            · rw [if_neg c6] at H
              exact absurd H (by simp)
          · rw [if_neg c5] at H
            exact absurd H (by simp)
        · rw [if_neg c4] at H
          have c4b0 : decide (x5_1 < (l0.length : Int)) = false := decide_eq_false c4
          clear c4
          obtain rfl := Option.some.inj H
          go_wp2
          repeat (go_quiet (fail); try go_wp2)
          go_ret
          exact ⟨eb, by repeat (first | exact Drawn0.refl _ | apply Drawn0.step)⟩
  · rw [if_neg c3] at H
    have c3b0 : ((l0.length : Int) == (l1.length : Int)) = false := beq_eq_false_iff_ne.mpr c3
    have c3b1 : ((l0.length : Int) != (l1.length : Int)) = true := bne_iff_ne.mpr c3
    have c3b2 : (l0.length == l1.length) = false := by first | simpa using c3 | (simp at c3 ⊢; omega)
    obtain rfl := Option.some.inj H
    go_enter Tryd.func48, Tryd.ntmps48
    go_wp2
    repeat (go_quiet (fail); try go_wp2)
    go_ret
    exact ⟨eb, by repeat (first | exact Drawn0.refl _ | apply Drawn0.step)⟩
def vellumref02_joins.f (a0_0 : ByteArray) (a0_1 : ByteArray) (a0_2 : Bool) (a1_0 : ByteArray) (a1_1 : ByteArray) (a1_2 : Bool) : Option (Bool) := if a0_2 = true then (some true) else (some (!(Op.bytesLess a0_1.toList a1_0.toList)))
set_option maxHeartbeats 8000000 in
set_option maxRecDepth 100000 in
theorem vellumref02_joins.calls (a0_0 : ByteArray) (a0_1 : ByteArray) (a0_2 : Bool) (a1_0 : ByteArray) (a1_1 : ByteArray) (a1_2 : Bool) (r : Bool) (w : World) (h : vellumref02_joins.f a0_0 a0_1 a0_2 a1_0 a1_1 a1_2 = some r) :
    Calls Tryd.prog 82 #[.agg #[.string a0_0, .string a0_1, .bool a0_2], .agg #[.string a1_0, .string a1_1, .bool a1_2]] w fun e w' => e = .returned (.bool r) ∧ Below w.heap.size w w' := by
  have hu32 := Tryd.underlying32
  have HB := am (Below.refl w.heap.size w)
  have H : (if a0_2 = true then (some true) else (some (!(Op.bytesLess a0_1.toList a1_0.toList)))) = some r := h
  clear h
  by_cases c3 : a0_2 = true
  · subst c3
    have H1 : (some true) = some r := by rw [if_pos rfl] at H; exact H
    clear H
    have H := H1
    clear H1
    obtain rfl := Option.some.inj H
    go_enter Tryd.func82, Tryd.ntmps82
    go_wp2_with (first | ((with_reducible refine gate_dst (N := 2) rfl ?_); refine box_event rfl (N := 2) rfl (cs := #[.string a0_0, .string a0_1, .bool true]) (t := 32) gs ?_; intro gb1032 hg w4 hbox hb; have BK1032 := am (hbox); have GW1032 := gw hg HB; have GE1032 := gw hg HB; replace HB := sb HB hb; clear hb hbox hg) | ((with_reducible refine gate_dst (N := 3) rfl ?_); refine box_event rfl (N := 3) rfl (cs := #[.string a1_0, .string a1_1, .bool a1_2]) (t := 32) gs ?_; intro gb1033 hg w5 hbox hb; have BK1033 := am (hbox); have GW1033 := gw hg HB; have GE1033 := gw hg HB; have NB1032_1033 := am ((by rw [hg]; exact Nat.ne_of_lt (blk_lt (bk BK1032)) : gb1032 ≠ gb1033)); have NB1033_1032 := am ((by rw [hg]; exact Nat.ne_of_gt (blk_lt (bk BK1032)) : gb1033 ≠ gb1032)); replace BK1032 := kb BK1032 hb; replace HB := sb HB hb; clear hb hbox hg; have hnb6 := NB1032_1033.out; have hnc6 := NB1033_1032.out; obtain ⟨Z7_0, Z7_1, Z7_2, Y7_0, Y7_1, Y7_2⟩ := bq3 BK1032))
    go_ret
    exact ⟨er, bl HB⟩
  · replace c3 := Bool.eq_false_iff.mpr c3
    subst c3
    have H1 : (some (!(Op.bytesLess a0_1.toList a1_0.toList))) = some r := by rw [if_neg (show ¬ (false = true) by decide)] at H; exact H
    clear H
    have H := H1
    clear H1
    obtain rfl := Option.some.inj H
    go_enter Tryd.func82, Tryd.ntmps82
    go_wp2_with (first | ((with_reducible refine gate_dst (N := 2) rfl ?_); refine box_event rfl (N := 2) rfl (cs := #[.string a0_0, .string a0_1, .bool false]) (t := 32) gs ?_; intro gb1032 hg w8 hbox hb; have BK1032 := am (hbox); have GW1032 := gw hg HB; have GE1032 := gw hg HB; replace HB := sb HB hb; clear hb hbox hg) | ((with_reducible refine gate_dst (N := 3) rfl ?_); refine box_event rfl (N := 3) rfl (cs := #[.string a1_0, .string a1_1, .bool a1_2]) (t := 32) gs ?_; intro gb1033 hg w9 hbox hb; have BK1033 := am (hbox); have GW1033 := gw hg HB; have GE1033 := gw hg HB; have NB1032_1033 := am ((by rw [hg]; exact Nat.ne_of_lt (blk_lt (bk BK1032)) : gb1032 ≠ gb1033)); have NB1033_1032 := am ((by rw [hg]; exact Nat.ne_of_gt (blk_lt (bk BK1032)) : gb1033 ≠ gb1032)); replace BK1032 := kb BK1032 hb; replace HB := sb HB hb; clear hb hbox hg; have hnb10 := NB1032_1033.out; have hnc10 := NB1033_1032.out; obtain ⟨Z11_0, Z11_1, Z11_2, Y11_0, Y11_1, Y11_2⟩ := bq3 BK1032; obtain ⟨Z12_0, Z12_1, Z12_2, Y12_0, Y12_1, Y12_2⟩ := bq3 BK1033))
    go_ret
    exact ⟨er, bl HB⟩
end Go.Proofs.YtpiifdbicibelaaDoor.PA
end
