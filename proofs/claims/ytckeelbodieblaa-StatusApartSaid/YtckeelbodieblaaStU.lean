/- Status: the reference's Forget. -/
import Derived.Test.YtckeelbodieblaaStT
namespace Go.Proofs.Ytckeelbodieblaa.St
open Go Go.RowKit Go.Proofs Go.Maps Go.MuLone Go.Sort Go.Shelf Go.Proofs.YtckeelbodieblaaW.PrintWords Go.Proofs.YtckeelbodieblaaW.PrintLast Go.Proofs.YtckeelbodieblaaW.PrintMore Go.Proofs.Ytckeelbodieblaa.PB
set_option linter.unusedVariables false
set_option linter.unusedSimpArgs false
theorem tab27 : rtab .any (opsOf Try.f27 11) = vellumref09_with.T7 := by kernel_rfl
theorem rdec_any (s : Int) (w : World) : Calls Try.prog 11 #[.int .i64 s] w fun e w' => e = .returned (.bool (dec s)) ∧ w' = w := by
  by_cases h3 : s = 3
  · go_enter Try.func11, Try.ntmps11
    go_wp2
    go_ret
    exact ⟨by simp [dec, h3], rfl⟩
  · by_cases h4 : s = 4
    · go_enter Try.func11, Try.ntmps11
      go_wp2
      go_ret
      exact ⟨by simp [dec, h4], rfl⟩
    · have h4b : (s == 4) = false := by simpa using h4
      go_enter Try.func11, Try.ntmps11
      go_wp2
      go_ret
      exact ⟨by simp [dec, h3, h4], rfl⟩
theorem erase_step (L : List S70) (i k : Nat) (x : S70) (hx : L[k]? = some x) : (L.take (k + 1)).eraseIdx i = (L.take k).eraseIdx i ++ (if k = i then [] else [x]) := by
  have hlt := (List.getElem?_eq_some_iff.1 hx).1
  have hl : (L.take k).length = k := by rw [List.length_take]; omega
  rw [List.take_add_one, hx]
  show (L.take k ++ [x]).eraseIdx i = _
  by_cases h : i < k
  · rw [List.eraseIdx_append_of_lt_length (by omega), if_neg (by omega)]
  · rw [List.eraseIdx_append_of_length_le (by omega), hl, List.eraseIdx_of_length_le (l := L.take k) (by omega)]
    by_cases e : k = i
    · subst e; simp
    · rw [if_neg e, List.eraseIdx_of_length_le (by simp; omega)]
section
variable {L : List S70} {last n : Int} {A : Option Addr} {c : Nat} {w : World}
set_option maxHeartbeats 8000000 in
set_option maxRecDepth 100000 in
theorem rForget (hC : Kd.C k70 w A L.length L) (hc : L.length ≤ c) (hl : L.length < 5864062014805) :
    Calls Try.prog 27 #[.agg #[.slice A L.length c, .int .i64 last], .int .i64 n] w fun e w' => ∃ v', e = .returned (.tuple #[.agg #[v', .int .i64 last], .int .i64 (forgetS L n).2]) ∧ RO w w' A c L v' (forgetS L n).1 ∧ Below w.heap.size w w' := by
  generalize hw2 : (w.alloc (.cells #[.slice A L.length c, .int .i64 last] 27)).alloc (.cells #[.slice none 0 0, .int .i64 0] 27) = w2
  have b1 : w2.heap[w.heap.size]? = some (.cells #[.slice A L.length c, .int .i64 last] 27) := by rw [← hw2]; exact heap_old (heap_new _ _)
  have b2 : w2.heap[w.heap.size + 1]? = some (.cells #[.slice none 0 0, .int .i64 0] 27) := by rw [← hw2]; have := heap_new (w.alloc (.cells #[.slice A L.length c, .int .i64 last] 27)) (.cells #[.slice none 0 0, .int .i64 0] 27); rw [size_new] at this; exact this
  have hB2 : Below w.heap.size w w2 := by rw [← hw2]; exact below_alloc (below_alloc (Below.refl _ _) _) _
  have HC := Aside0.mk hC
  have HB2 := Aside0.mk hB2
  have HW := Aside0.mk hw2
  have hz2 := hB2.size
  have hlk := rfind_any (n := n) (last := last) (Kd.C_below hC hB2) hc hl
  clear hC hB2 hw2
  cases hat : at? L n with
  | none =>
    rw [show idx? L n = -1 by unfold idx?; rw [hat]] at hlk
    rw [show forgetS L n = (L, 90) by unfold forgetS; rw [hat]]
    go_enter Try.func27, Try.ntmps27
    go_wp2_with (go_at_call 43; rw [HW.out]; refine hlk.mono ?_; rintro e w3 ⟨rfl, hB3⟩; have D1 := Aside0.mk ((hB3.block _ (lt_of b1)).trans b1); have D2 := Aside0.mk ((hB3.block _ (lt_of b2)).trans b2); have c0 : w3.cell? ⟨w.heap.size, 0, none⟩ = some (.slice A L.length c) := cell_of D1.out 0; have c1 : w3.cell? ⟨w.heap.size, 1, none⟩ = some (.int .i64 last) := cell_of D1.out 1; have c2 : w3.cell? ⟨w.heap.size + 1, 0, none⟩ = some (.slice none 0 0) := cell_of D2.out 0; have c3 : w3.cell? ⟨w.heap.size + 1, 1, none⟩ = some (.int .i64 0) := cell_of D2.out 1; have f2 : w3.frozen? ⟨w.heap.size + 1, 0, none⟩ = false := frozen_of D2.out 0; have f3 : w3.frozen? ⟨w.heap.size + 1, 1, none⟩ = false := frozen_of D2.out 1; have HB3 := Aside0.mk (below_step HB2.out hB3); clear hB3)
    refine bodyPost_ret (results_ct rfl _ _ (w.heap.size + 1) 27 #[.slice A L.length c, .int .i64 last] (0, 0) _ rfl (setCell_heap (setCell_heap D2.out _) _) Try.underlying27 rfl (by kernel_rfl)) rfl ?_
    exact ⟨_, rfl, .inl ⟨rfl, rfl⟩, (HB3.out.setCell (p := ⟨w.heap.size + 1, 0, none⟩) (Nat.le_succ _) _).setCell (p := ⟨w.heap.size + 1, 1, none⟩) (Nat.le_succ _) _⟩
  | some p =>
    obtain ⟨i, x⟩ := p
    have hi : L[i]? = some x := (at?_some hat).1
    rw [show idx? L n = (i : Int) by unfold idx?; rw [hat]] at hlk
    have hlt := (List.getElem?_eq_some_iff.1 hi).1
    have hltz : (i : Int) < (L.length : Int) := by omega
    have hnn : ¬ (i : Int) < 0 := by omega
    obtain ⟨ad, ea, hx0, hx1, hx2⟩ := at_T70 HC.out (i : Int) (by omega) hltz
    subst ea
    rw [rd70 hi] at hx0 hx1 hx2
    have HX1 := Aside0.mk hx1
    clear hi hx0 hx1 hx2
    cases hd : dec x.f1 with
    | false =>
      rw [show forgetS L n = (L, 92) by unfold forgetS; rw [hat]; simp [hd]]
      go_enter Try.func27, Try.ntmps27
      go_wp2_with (first | (go_at_call 43; rw [HW.out]; refine hlk.mono ?_; rintro e w3 ⟨rfl, hB3⟩; have D1 := Aside0.mk ((hB3.block _ (lt_of b1)).trans b1); have D2 := Aside0.mk ((hB3.block _ (lt_of b2)).trans b2); have c0 : w3.cell? ⟨w.heap.size, 0, none⟩ = some (.slice (some ad) L.length c) := cell_of D1.out 0; have c1 : w3.cell? ⟨w.heap.size, 1, none⟩ = some (.int .i64 last) := cell_of D1.out 1; have c2 : w3.cell? ⟨w.heap.size + 1, 0, none⟩ = some (.slice none 0 0) := cell_of D2.out 0; have c3 : w3.cell? ⟨w.heap.size + 1, 1, none⟩ = some (.int .i64 0) := cell_of D2.out 1; have f2 : w3.frozen? ⟨w.heap.size + 1, 0, none⟩ = false := frozen_of D2.out 0; have f3 : w3.frozen? ⟨w.heap.size + 1, 1, none⟩ = false := frozen_of D2.out 1; have HB3 := Aside0.mk (below_step HB2.out hB3); clear hB3; have hx1 := HX1.out; replace hx1 := (HB3.out.cell (World.block_lt_of_cell? _ _ hx1)).trans hx1; simp only [Int.toNat_natCast] at hx1) | (go_at_call 11; refine (rdec_any _ _).mono ?_; rintro e w' ⟨rfl, h9⟩; obtain rfl := h9.symm; rw [hd]))
      refine bodyPost_ret (results_ct rfl _ _ (w.heap.size + 1) 27 #[.slice (some ad) L.length c, .int .i64 last] (0, 0) _ rfl (setCell_heap (setCell_heap D2.out _) _) Try.underlying27 rfl (by kernel_rfl)) rfl ?_
      exact ⟨_, rfl, .inl ⟨rfl, rfl⟩, (HB3.out.setCell (p := ⟨w.heap.size + 1, 0, none⟩) (Nat.le_succ _) _).setCell (p := ⟨w.heap.size + 1, 1, none⟩) (Nat.le_succ _) _⟩
    | true =>
      rw [show forgetS L n = (L.eraseIdx i, 0) by unfold forgetS; rw [hat]; simp [hd]]
      go_enter Try.func27, Try.ntmps27
      go_wp2_with (first | (go_at_call 43; rw [HW.out]; refine hlk.mono ?_; rintro e w3 ⟨rfl, hB3⟩; have D1 := Aside0.mk ((hB3.block _ (lt_of b1)).trans b1); have D2 := Aside0.mk ((hB3.block _ (lt_of b2)).trans b2); have c0 : w3.cell? ⟨w.heap.size, 0, none⟩ = some (.slice (some ad) L.length c) := cell_of D1.out 0; have c1 : w3.cell? ⟨w.heap.size, 1, none⟩ = some (.int .i64 last) := cell_of D1.out 1; have c2 : w3.cell? ⟨w.heap.size + 1, 0, none⟩ = some (.slice none 0 0) := cell_of D2.out 0; have c3 : w3.cell? ⟨w.heap.size + 1, 1, none⟩ = some (.int .i64 0) := cell_of D2.out 1; have f2 : w3.frozen? ⟨w.heap.size + 1, 0, none⟩ = false := frozen_of D2.out 0; have f3 : w3.frozen? ⟨w.heap.size + 1, 1, none⟩ = false := frozen_of D2.out 1; have HB3 := Aside0.mk (below_step HB2.out hB3); clear hB3; have hx1 := HX1.out; replace hx1 := (HB3.out.cell (World.block_lt_of_cell? _ _ hx1)).trans hx1; simp only [Int.toNat_natCast] at hx1) | (go_at_call 11; refine (rdec_any _ _).mono ?_; rintro e w' ⟨rfl, h9⟩; obtain rfl := h9.symm; rw [hd]))
      have h13 : w.heap.size + 1 < w3.heap.size := lt_of D2.out
      go_loopg [8] L.length (fun gg s8 wr => ∃ (k : Nat) (v : Value), s8 = .int .i64 k ∧ k ≤ L.length ∧ Aside0 (L.length - k ≤ gg) ∧ Aside0 (wr.heap[w3.heap.size]? = some (.cells #[v, .int .i64 last] 27)) ∧ Aside0 (Kd.R k70 70 wr w3.heap.size (fun j => j ≠ w3.heap.size) v ((L.take k).eraseIdx i)) ∧ Aside0 (Below w3.heap.size w3 wr))
      case atStart => exact ⟨0, .slice none 0 0, rfl, Nat.zero_le _, ⟨by omega⟩, ⟨heap_new _ _⟩, ⟨by simpa using Kd.R_nil _ _ _ _ _⟩, ⟨below_alloc (Below.refl _ _) _⟩⟩
      case round =>
        obtain ⟨k, v, rfl, hk, HM, HV, HO, HB⟩ := hrel
        have hV := HV.out
        have hD1 := (HB.out.block _ (lt_of D1.out)).trans D1.out
        have hD2 := (HB.out.block _ (lt_of D2.out)).trans D2.out
        have v0 : wr.cell? ⟨w3.heap.size, 0, none⟩ = some v := cell_of hV 0
        have v1 : wr.cell? ⟨w3.heap.size, 1, none⟩ = some (.int .i64 last) := cell_of hV 1
        have c0 : wr.cell? ⟨w.heap.size, 0, none⟩ = some (.slice (some ad) L.length c) := cell_of hD1 0
        have c2 : wr.cell? ⟨w.heap.size + 1, 0, none⟩ = some (.slice none 0 0) := cell_of hD2 0
        have c3 : wr.cell? ⟨w.heap.size + 1, 1, none⟩ = some (.int .i64 0) := cell_of hD2 1
        have f2 : wr.frozen? ⟨w.heap.size + 1, 0, none⟩ = false := frozen_of hD2 0
        have f3 : wr.frozen? ⟨w.heap.size + 1, 1, none⟩ = false := frozen_of hD2 1
        have HD2 := Aside0.mk hD2
        have HD1 := Aside0.mk hD1
        obtain ⟨A5, c5, rfl⟩ := Kd.R_slice HO.out
        by_cases hlk' : k < L.length
        · have hkz : (k : Int) < (L.length : Int) := by omega
          obtain ⟨y, hy⟩ : ∃ y, L[k]? = some y := ⟨_, List.getElem?_eq_getElem hlk'⟩
          have hes := erase_step L i k y hy
          have hel : ((L.take k).eraseIdx i).length ≤ k := Nat.le_trans (List.length_eraseIdx_le _ _) (by rw [List.length_take]; omega)
          have HS := Aside0.mk hes
          generalize (L.take k).eraseIdx i = O at HO HS hel v0 HV
          have HEL := Aside0.mk hel
          have HY := Aside0.mk hy
          clear hes hel hV hD1 hD2 hy
          by_cases e : k = i
          · have ez : (k : Int) = (i : Int) := by omega
            go_wp2
            go_roundg (L.length - (k + 1))
            case measure => have := HM.out; omega
            case rel => exact ⟨k + 1, _, by go_num, hlk', ⟨Nat.le_refl _⟩, ⟨HV.out⟩, ⟨by rw [HS.out, if_pos e, List.append_nil]; exact HO.out⟩, ⟨HB.out⟩⟩
          · have ez : ((k : Int) = (i : Int)) = False := eq_false (by omega)
            go_wp2
            obtain ⟨ad2, ea2, hy0, hy1, hy2⟩ := at_T70 HC.out (k : Int) (by omega) hkz
            obtain rfl := (Option.some.inj ea2)
            rw [rd70 HY.out] at hy0 hy1 hy2
            have hBr := below_step HB3.out HB.out
            replace hy0 := (hBr.cell (World.block_lt_of_cell? _ _ hy0)).trans hy0
            replace hy1 := (hBr.cell (World.block_lt_of_cell? _ _ hy1)).trans hy1
            replace hy2 := (hBr.cell (World.block_lt_of_cell? _ _ hy2)).trans hy2
            simp only [Int.toNat_natCast] at hy0 hy1 hy2
            refine start_ (n := 11) (S := fun w' => w'.cell? ⟨w3.heap.size, 0, none⟩ = some (.slice A5 O.length c5) ∧ w'.cell? ⟨w.heap.size, 0, none⟩ = some (.slice (some ad) L.length c) ∧ w'.cell? (ad.add (k * 3)) = some (.int .i64 y.f0) ∧ w'.cell? ⟨(ad.add (k * 3)).block, (ad.add (k * 3)).off + 1, none⟩ = some (.int .i64 y.f1) ∧ w'.cell? ⟨(ad.add (k * 3)).block, (ad.add (k * 3)).off + 2, none⟩ = some (.int .u64 y.f2)) (ds := [10]) #[false, false, false, false, false, false, false, false, false, false, false] (by kernel_rfl) rfl rfl ⟨v0, c0, hy0, hy1, hy2⟩ (fun hHeld => ?_); refine with_tabW tab27 vellumref09_with.bits7 (fun HT_ HW_ => ?_)
            refine pure_ (i := 0) (N := (some 37)) (v := ?_) (a' := ?_) #[true, false, false, false, false, false, false, false, false, false, false] rfl rfl (any_of HT_.out (by kernel_rfl)) (fun _ _ _ h => h) (Or.inl ⟨by rfl, ?_⟩) ?_ ?_
            rotate_left
            · intro w'
              go_simp
              with_reducible rfl
            rotate_left
            · simp only [Act.put, List.setIfInBounds_toArray, List.set_cons_zero, List.set_cons_succ, i64_w, i32_w]
              rfl
            refine pure_ (i := 2) (N := (some 39)) (v := ?_) (a' := ?_) #[true, false, true, false, false, false, false, false, false, false, false] rfl rfl (any_of HT_.out (by kernel_rfl)) (fun _ _ _ h => h) (Or.inl ⟨by rfl, ?_⟩) ?_ ?_
            rotate_left
            · intro w'
              go_simp
              with_reducible rfl
            rotate_left
            · simp only [Act.put, List.setIfInBounds_toArray, List.set_cons_zero, List.set_cons_succ, i64_w, i32_w]
              rfl
            refine pure_ (i := 4) (N := (some 41)) (v := ?_) (a' := ?_) #[true, false, true, false, true, false, false, false, false, false, false] rfl rfl (any_of HT_.out (by kernel_rfl)) (fun _ _ _ h => h) (Or.inl ⟨by rfl, ?_⟩) ?_ ?_
            rotate_left
            · intro w'
              go_simp
              with_reducible rfl
            rotate_left
            · simp only [Act.put, List.setIfInBounds_toArray, List.set_cons_zero, List.set_cons_succ, i64_w, i32_w]
              rfl
            refine take_ (i := 1) (N := (some 38)) (v := ?_) (a' := ?_) #[true, true, true, false, true, false, false, false, false, false, false] rfl rfl (take_ofW HT_.out HW_.out (by kernel_rfl)) (fun _ _ _ h => h) (Or.inl ⟨by rfl, ?_⟩) hHeld ?_ ?_
            rotate_left
            · rintro w' ⟨s0, s1, s2, s3, s4⟩
              go_simp
              with_reducible rfl
            rotate_left
            · simp only [Act.put, List.setIfInBounds_toArray, List.set_cons_zero, List.set_cons_succ, i64_w, i32_w]
              rfl
            refine take_ (i := 3) (N := (some 40)) (v := ?_) (a' := ?_) #[true, true, true, true, true, false, false, false, false, false, false] rfl rfl (take_ofW HT_.out HW_.out (by kernel_rfl)) (fun _ _ _ h => h) (Or.inl ⟨by rfl, ?_⟩) hHeld ?_ ?_
            rotate_left
            · rintro w' ⟨s0, s1, s2, s3, s4⟩
              go_simp
              with_reducible rfl
            rotate_left
            · simp only [Act.put, List.setIfInBounds_toArray, List.set_cons_zero, List.set_cons_succ, i64_w, i32_w]
              rfl
            refine pure_ (i := 5) (N := some 42) (v := ?_) (a' := ?_) #[true, true, true, true, true, true, false, false, false, false, false] rfl rfl (any_of HT_.out (by kernel_rfl)) (fun _ _ _ h => h) (Or.inl ⟨by rfl, ?_⟩) ?_ ?_
            rotate_left
            · intro w'
              go_simp
              with_reducible rfl
            rotate_left
            · simp only [Act.put, List.setIfInBounds_toArray, List.set_cons_zero, List.set_cons_succ, i64_w, i32_w]
              rfl
            refine take_ (i := 6) (N := some 43) (v := ?_) (a' := ?_) #[true, true, true, true, true, true, true, false, false, false, false] rfl rfl (take_ofW HT_.out HW_.out (by kernel_rfl)) (fun _ _ _ h => h) (Or.inl ⟨by rfl, ?_⟩) hHeld ?_ ?_
            rotate_left
            · rintro w' ⟨s0, s1, s2, s3, s4⟩
              go_simp
              with_reducible rfl
            rotate_left
            · simp only [Act.put, List.setIfInBounds_toArray, List.set_cons_zero, List.set_cons_succ, i64_w, i32_w]
              rfl
            refine one_ (i := 7) (N := some 44) #[true, true, true, true, true, true, true, true, false, false, false] rfl rfl (one_of HT_.out (by kernel_rfl)) (by decide) (fun K hK => ?_)
            refine value_ (w1 := ?_) (v := ?_) (by rfl) rfl ?_ ?_
            rotate_left 2
            · go_simp
              constructor
              · rfl
              · rfl
            have hal := fun (p : Addr) (u : Value) (h : wr.drew.cell? p = some u) (o : Obj) => (World.cell?_alloc_lt _ o _ (World.block_lt_of_cell? _ _ h)).trans h
            refine hK.out _ _ ⟨hal _ _ hHeld.1 _, hal _ _ hHeld.2.1 _, hal _ _ hHeld.2.2.1 _, hal _ _ hHeld.2.2.2.1 _, hal _ _ hHeld.2.2.2.2 _⟩ (fun hHeld2 => ?_)
            clear hK K
            refine norm_ (a' := ?_) ?_ ?_
            rotate_left
            · show Act.put _ (some 44) _ = _
              simp only [Act.put, List.setIfInBounds_toArray, List.set_cons_zero, List.set_cons_succ, i64_w, i32_w]
              rfl
            refine one_ (i := 8) (N := some 45) #[true, true, true, true, true, true, true, true, true, false, false] rfl rfl (one_of HT_.out (by kernel_rfl)) (by decide) (fun K hK => ?_)
            refine Kd.R_append_step k70 (w0 := w3) w3.heap.size (by rfl) (.tmp 38) (.tmp 44) 25 70 (.agg #[(.int .i64 0), (.int .i64 0), (.int .u64 0)]) 24 rfl Try.underlying25 info70 rfl (by decide) (by omega) (.slice A5 O.length c5) O y [.int .i64 y.f0, .int .i64 y.f1, .int .u64 y.f2] (fun j => j ≠ w3.heap.size) (fun _ => False) rfl rfl (k70_mkM _ _ _ y) (fun _ hk => hk.elim) ?aF (Kd.R_drew HO.out) (below_drew1 HB.out) HB.out.size ?aL ?_
            (case aF => exact fun j hj e => by have h9 := lt_of HV.out; have h10 : wr.heap.size ≤ j := hj; omega)
            (case aL => have := HEL.out; omega)
            intro v6 w6 ho hb hg hat6
            obtain ⟨A6, c6, rfl⟩ := Kd.R_slice ho
            simp only [List.length_append, List.length_cons, List.length_nil, Nat.zero_add] at ho
            have hne6 : some w3.heap.size ≠ (Value.slice A5 O.length c5).ownBlock := fun e9 => (HO.out.1 _ e9.symm) rfl
            have V6 := Aside0.mk ((hg.block w3.heap.size (lt_of HV.out) hne6).trans HV.out)
            have HO6 := Aside0.mk ho
            have HB6 := Aside0.mk hb
            have hz6 : w3.heap.size ≤ w6.heap.size := hb.size
            have D16 := Aside0.mk ((hb.block _ (lt_of D1.out)).trans D1.out)
            have D26 := Aside0.mk ((hb.block _ (lt_of D2.out)).trans D2.out)
            have hBr6 := below_step HB3.out hb
            have hc6 := fun (p : Addr) (u : Value) (h : w.cell? p = some u) => (hBr6.cell (World.block_lt_of_cell? _ _ h)).trans h
            obtain ⟨ad3, ea3, hz0, hz1, hz2⟩ := at_T70 HC.out (k : Int) (by omega) hkz
            obtain rfl := (Option.some.inj ea3)
            rw [rd70 HY.out] at hz0 hz1 hz2
            simp only [Int.toNat_natCast] at hz0 hz1 hz2
            refine hK.out _ _ ⟨cell_of V6.out 0, cell_of D16.out 0, hc6 _ _ hz0, hc6 _ _ hz1, hc6 _ _ hz2⟩ (fun hHeld3 => ?_)
            clear hK K
            refine norm_ (a' := ?_) ?_ ?_
            rotate_left
            · show Act.put _ (some 45) _ = _
              simp only [Act.put, List.setIfInBounds_toArray, List.set_cons_zero, List.set_cons_succ, i64_w, i32_w]
              rfl
            refine pure_ (i := 9) (N := some 46) (v := ?_) (a' := ?_) #[true, true, true, true, true, true, true, true, true, true, false] rfl rfl (any_of HT_.out (by kernel_rfl)) (fun _ _ _ h => h) (Or.inl ⟨by rfl, ?_⟩) ?_ ?_
            rotate_left
            · intro w'
              go_simp
              with_reducible rfl
            rotate_left
            · simp only [Act.put, List.setIfInBounds_toArray, List.set_cons_zero, List.set_cons_succ, i64_w, i32_w]
              rfl
            refine last_ (i := 10) (N := none) #[true, true, true, true, true, true, true, true, true, true, true] rfl rfl (one_of HT_.out (by kernel_rfl)) (by decide) (fun K hK => ?_)
            have s6 : w6.cell? ⟨w3.heap.size, 0, none⟩ = some (.slice A5 O.length c5) := cell_of V6.out 0
            have g6 : w6.frozen? ⟨w3.heap.size, 0, none⟩ = false := frozen_of V6.out 0
            refine skip_ (w1 := ?_) (by rfl) rfl ?_ ?_
            rotate_left
            · go_simp
              rfl
            refine hK.out _ _ ?_
            clear hK K
            refine done_ (done_of HT_.out (by kernel_rfl)) ?_
            try go_wp2
            go_roundg (L.length - (k + 1))
            case measure => have := HM.out; omega
            case rel => exact ⟨k + 1, _, by go_num, hlk', ⟨Nat.le_refl _⟩, ⟨setCell_heap V6.out _⟩, ⟨by rw [HS.out, if_neg e]; exact Kd.R_far HO6.out (p := ⟨w3.heap.size, 0, none⟩) (fun j hj => hj) _⟩, ⟨HB6.out.setCell (p := ⟨w3.heap.size, 0, none⟩) (Nat.le_refl _) _⟩⟩
        · obtain rfl : k = L.length := by omega
          have hkz : ¬ (L.length : Int) < (L.length : Int) := by omega
          have hfin := HO.out
          rw [List.take_length] at hfin
          have HF := Aside0.mk hfin
          clear hV hD1 hD2 hfin
          go_wp2
          refine bodyPost_ret (results_ct rfl _ _ (w.heap.size + 1) 27 #[_, .int .i64 last] (0, 0) _ rfl (setCell_heap (setCell_heap HD2.out _) _) Try.underlying27 rfl (by kernel_rfl)) rfl ?_
          refine ⟨_, rfl, .inr ?_, ((below_step HB3.out HB.out).setCell (p := ⟨w.heap.size + 1, 0, none⟩) (Nat.le_succ _) _).setCell (p := ⟨w.heap.size + 1, 1, none⟩) (Nat.le_succ _) _⟩
          exact Kd.R_mono (Kd.R_far (Kd.R_far (Kd.R_lower (Kd.R_bound HF.out) HB3.out.size) (p := ⟨w.heap.size + 1, 0, none⟩) (fun j hj => by have := hj.2.1; show j ≠ w.heap.size + 1; omega) _) (p := ⟨w.heap.size + 1, 1, none⟩) (fun j hj => by have := hj.2.1; show j ≠ w.heap.size + 1; omega) _) (fun _ _ => trivial)
end
end Go.Proofs.Ytckeelbodieblaa.St
