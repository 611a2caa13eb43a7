/- Part 5 of what the proof of SetsMerges stands on: words for walks, printed functions with their contracts, plain laws. -/
import Derived.Test.YtldlenjfpjihdaaGreatKSetsMerges3
section
namespace Go.Proofs.YtldlenjfpjihdaaGreat.PS
open Go Go.RowKit Go.Proofs Go.Maps Go.WideMaps Go.Proofs.YtldlenjfpjihdaaGreatW.PrintWords Go.Proofs.YtldlenjfpjihdaaGreatW.PrintLast Go.Proofs.YtldlenjfpjihdaaGreatW.PrintMore
set_option linter.unusedVariables false
set_option linter.unusedSimpArgs false
open Go.Proofs.YtldlenjfpjihdaaGreat.PU (unionR)
def T22_10 : Bool × List (List Nat × List Nat) := (true, [([], []), ([0], [0]), ([], []), ([1, 2], [1, 2]), ([3], [3]), ([4], [4]), ([], []), ([], []), ([6, 7], [6, 7]), ([8], [8]), ([9], [9]), ([5, 10], [5, 10]), ([11], [11]), ([12], [12]), ([13, 12], [12, 13]), ([12], [12]), ([14, 15, 12], [12, 14, 15]), ([16, 12], [12, 16]), ([17, 12], [12, 17]), ([12], [12]), ([12], [12]), ([19, 20, 12], [12, 19, 20]), ([21, 12], [12, 21]), ([22, 12], [12, 22]), ([18, 23, 12], [12, 18, 23]), ([12, 24], [12, 24])])
theorem tab22_10 : rtab .any (opsOf Tryz.f22 10) = T22_10 := by kernel_rfl
def T22_16 : Bool × List (List Nat × List Nat) := (true, [([], []), ([0], [0]), ([], []), ([], []), ([2, 3], [2, 3]), ([4], [4]), ([5], [5]), ([], []), ([], []), ([7, 8], [7, 8]), ([9], [9]), ([10], [10]), ([], []), ([], []), ([12, 13], [12, 13]), ([14], [14]), ([6, 11, 15], [6, 11, 15]), ([16], [16]), ([1, 17], [1, 17]), ([0, 1, 2, 3, 4, 5, 6, 7, 8, 9, 10, 11, 12, 13, 14, 15, 16, 17, 18], []), ([19, 18, 18, 0, 1, 2, 3, 4, 5, 6, 7, 8, 9, 10, 11, 12, 13, 14, 15, 16, 17, 18], [18, 19])])
theorem tab22_16 : rtab .any (opsOf Tryz.f22 16) = T22_16 := by kernel_rfl
def T22_21 : Bool × List (List Nat × List Nat) := (true, [([], []), ([0], [0]), ([], []), ([], []), ([2, 3], [2, 3]), ([4], [4]), ([1, 5], [1, 5]), ([6], [6])])
theorem tab22_21 : rtab .any (opsOf Tryz.f22 21) = T22_21 := by kernel_rfl
def T22_22 : Bool × List (List Nat × List Nat) := (true, [([], []), ([0], [0]), ([], []), ([], []), ([2, 3], [2, 3]), ([4], [4]), ([5], [5]), ([1, 6], [1, 6]), ([0, 1, 2, 3, 4, 5, 6, 7], []), ([8, 7, 7, 0, 1, 2, 3, 4, 5, 6, 7], [7, 8])])
theorem tab22_22 : rtab .any (opsOf Tryz.f22 22) = T22_22 := by kernel_rfl
set_option maxHeartbeats 16000000 in
set_option maxRecDepth 100000 in
theorem rnormal_any (f : Ft) (A0 A1 A2 : Option Addr) (c0 c1 c2 : Nat) (w : World) (hf : FtR w A0 A1 A2 c0 c1 c2 f) (hn : f.ps.length + f.ss.length + f.ws.length ≤ 65536) :
    Calls Tryz.prog 22 #[.agg #[.slice A0 f.ps.length c0, .slice A1 f.ss.length c1, .slice A2 f.ws.length c2]] w fun e w' => ∃ (g : Ft) (pl : List SPl) (v : Value), e = .returned v ∧ NormOf f g pl ∧ FtV w' v g ∧ Below w.heap.size w w' := by
  generalize hW : (w.alloc (ftO A0 A1 A2 c0 c1 c2 f)).alloc zFt = w1
  have hB1 : Below w.heap.size w w1 := by rw [← hW]; exact below_alloc (below_alloc (Below.refl _ _) _) _
  have b0 : w1.heap[w.heap.size]? = some (ftO A0 A1 A2 c0 c1 c2 f) := by rw [← hW]; exact heap_old (heap_new _ _)
  have b1 : w1.heap[w.heap.size + 1]? = some zFt := by rw [← hW]; have := heap_new (w.alloc (ftO A0 A1 A2 c0 c1 c2 f)) zFt; rw [size_new] at this; exact this
  have HF := Aside0.mk hf
  have HB1 := Aside0.mk hB1
  have D0 := Aside0.mk b0
  have D1 := Aside0.mk b1
  unfold ftO zFt at hW
  have HW := Aside0.mk hW
  clear hW hB1 b0 b1 hf
  go_enter Tryz.func22, Tryz.ntmps22
  --@A
  go_wp2_with fail
  rw [HW.out]
  clear HW
  refine (sorted_any _ f.ws A2 c2 w1 rfl (Kd.C_below HF.out.h2 HB1.out) HF.out.l2 (by omega)).mono ?_
  rintro e w2 ⟨Aw, cw, rws, rfl, h1, h2, h3, h4⟩
  have hx0 := (h4.block _ (lt_of D0.out)).trans D0.out
  have HX1 := Aside0.mk ((h4.block _ (lt_of D1.out)).trans D1.out)
  have HB2 := Aside0.mk (Below.trans HB1.out (h4.mono HB1.out.size))
  have HRw := Aside0.mk h1
  have HSw := Aside0.mk h2
  have HCw := Aside0.mk h3
  have m1 : w2.cell? ⟨w.heap.size, 1, none⟩ = some (.slice A1 f.ss.length c1) := cell_of hx0 1
  have hlt1 := lt_of hx0
  have hne1 : (w.heap.size = w2.heap.size) = False := eq_false (by omega)
  have HX0 := Aside0.mk hx0
  generalize hWo : w2.alloc (.cells #[.slice none 0 0, .slice none 0 0, .slice Aw rws.length cw] 25) = wo
  have HWo := Aside0.mk hWo
  clear h1 h2 h3 h4 hx0 hWo
  --@B
  go_wp2_with fail
  rw [HWo.out]
  have hBo : Below w2.heap.size w2 wo := by rw [← HWo.out]; exact below_alloc (Below.refl _ _) _
  have hxo : wo.heap[w2.heap.size]? = some (.cells #[.slice none 0 0, .slice none 0 0, .slice Aw rws.length cw] 25 (0, 0)) := by rw [← HWo.out]; exact heap_new _ _
  clear HWo
  refine (places_any f.ss A1 c1 wo (Kd.C_below HF.out.h1 (Below.trans HB2.out (hBo.mono HB2.out.size))) HF.out.l1 (by omega)).mono ?_
  rintro e w3 ⟨Ap, cp, pl, rfl, h1, h2, h3, h4⟩
  have hBo3 : Below w2.heap.size w2 w3 := Below.trans hBo (h4.mono hBo.size)
  have HX3 := Aside0.mk ((h4.block _ (lt_of hxo)).trans hxo)
  have HBo3 := Aside0.mk hBo3
  have HFr0 := Aside0.mk (Fr.refl (lt_of HX3.out) : Fr w3 w2.heap.size w3)
  have HY0 := Aside0.mk ((hBo3.block _ (lt_of HX0.out)).trans HX0.out)
  have HY1 := Aside0.mk ((hBo3.block _ (lt_of HX1.out)).trans HX1.out)
  have HSp := Aside0.mk h2
  have HCp := Aside0.mk h3
  have hpl : pl.length ≤ 65536 := by have := h2.2.2; rw [List.length_map] at this; omega
  have HSl := Aside0.mk (allSl (a := .slice none 0 0) (b := .slice none 0 0) (c := .slice Aw rws.length cw) rfl rfl rfl)
  have HCs := Aside0.mk (Kd.C_below HF.out.h1 (Below.trans HB2.out (hBo3.mono HB2.out.size)))
  have hlt3 : w2.heap.size < w3.heap.size := lt_of HX3.out
  clear h1 h2 h3 h4 hxo hBo hBo3 m1
  --@C
  go_wp2
  --@D
  go_loopg [5] pl.length (fun gg s5 wr => ∃ (k : Nat) (vs : Value) (sp : List S46), s5 = .int .i64 k ∧ k ≤ pl.length ∧ Aside0 (pl.length - k ≤ gg) ∧ Aside0 (Fr w3 w2.heap.size wr) ∧ Aside0 (wr.heap[w2.heap.size]? = some (.cells #[.slice none 0 0, vs, .slice Aw rws.length cw] 25 (0, 0))) ∧ Aside0 (Kd.R k46 46 wr w3.heap.size (fun _ => True) vs sp) ∧ Aside0 (sp = (pl.take k).flatMap (spanF f.ss)))
  case atStart => exact ⟨0, _, [], rfl, Nat.zero_le _, ⟨Nat.le_refl _⟩, ⟨HFr0.out⟩, ⟨HX3.out⟩, ⟨Kd.R_nil _ _ _ _ _⟩, ⟨rfl⟩⟩
  case round =>
    clear HFr0
    obtain ⟨w4, hwq⟩ : ∃ x, x = wr := ⟨_, rfl⟩
    subst hwq
    obtain ⟨k, vs, sp, rfl, hk, HM4, HFr4, HO4, HR4, HSp4⟩ := hrel
    by_cases hltA : k < pl.length
    · have hltzA : (k : Int) < (pl.length : Int) := by omega
      obtain ⟨ad, ea, a0, a1, -⟩ := at_T37 HCp.out (k : Int) (by omega) hltzA
      subst ea
      obtain ⟨y, hy⟩ := ex_get hltA
      rw [rd37 hy] at a0 a1
      simp only [Int.toNat_natCast] at a0 a1
      have HYy := Aside0.mk hy
      have HA3 := Aside0.mk (And.intro a0 a1)
      have HA := Aside0.mk (And.intro (HFr4.out.cell HX3.out HSl.out a0 rfl) (HFr4.out.cell HX3.out HSl.out a1 rfl))
      generalize hW5 : w4.alloc (.cells #[] 44) = w5
      have hB5 : Below w4.heap.size w4 w5 := by rw [← hW5]; exact below_alloc (Below.refl _ _) _
      have hR5 : Kd.R k44 44 w5 w3.heap.size (fun _ => True) (.slice (some ⟨w4.heap.size, 0, none⟩) 0 0) [] := by rw [← hW5]; exact R_none k44 44 w4 w3.heap.size HFr4.out.size
      have HB5 := Aside0.mk hB5
      have HR5 := Aside0.mk hR5
      have HW5 := Aside0.mk hW5
      have HO5 := Aside0.mk ((hB5.block _ (lt_of HO4.out)).trans HO4.out)
      have HS5 := Aside0.mk (Kd.R_below HR4.out hB5)
      have HFr5 := Aside0.mk (HFr4.out.below hB5)
      clear hy a0 a1 hW5 hB5 hR5
      --@E
      go_wp2_with fail
      rw [HW5.out]
      clear HW5
      --@F
      go_loopg [6, 7] f.ss.length (fun gg s6 s7 wb => ∃ k2 : Nat, s7 = .int .i64 k2 ∧ k2 ≤ f.ss.length ∧ Aside0 (f.ss.length - k2 ≤ gg) ∧ Aside0 (Fr w3 w2.heap.size wb) ∧ Aside0 (wb.heap[w2.heap.size]? = some (.cells #[.slice none 0 0, vs, .slice Aw rws.length cw] 25 (0, 0))) ∧ Aside0 (Kd.R k46 46 wb w3.heap.size (fun _ => True) vs sp) ∧ Aside0 (Kd.R k44 44 wb w3.heap.size (fun _ => True) s6 (rangesAt (f.ss.take k2) ⟨y.f0, y.f1⟩)) ∧ Aside0 (wb.cell? (ad.add (k * 3)) = some (.int .i64 y.f0) ∧ wb.cell? ⟨(ad.add (k * 3)).block, (ad.add (k * 3)).off + 1, none⟩ = some (.int .i64 y.f1)))
      case atStart => exact ⟨0, rfl, Nat.zero_le _, ⟨Nat.le_refl _⟩, ⟨HFr5.out⟩, ⟨HO5.out⟩, ⟨HS5.out⟩, ⟨HR5.out⟩, ⟨⟨(HB5.out.cell (World.block_lt_of_cell? _ _ HA.out.1)).trans HA.out.1, (HB5.out.cell (World.block_lt_of_cell? _ _ HA.out.2)).trans HA.out.2⟩⟩⟩
      case round =>
        clear HFr5 HO5 HS5 HR5 HB5
        obtain ⟨w6, hwq⟩ : ∃ x, x = wr := ⟨_, rfl⟩
        subst hwq
        obtain ⟨k2, rfl, hk2, HM6, HFr6, HO6, HS6, HR6, HA6⟩ := hrel
        have hx0 := (HFr6.out.low.block w.heap.size hlt1).trans HY0.out
        have m1 : w6.cell? ⟨w.heap.size, 1, none⟩ = some (.slice A1 f.ss.length c1) := cell_of hx0 1
        by_cases hltB : k2 < f.ss.length
        · have hltzB : (k2 : Int) < (f.ss.length : Int) := by omega
          have hC6 := HFr6.out.C46 HX3.out HSl.out HCs.out
          obtain ⟨ad2, ea, b0, b1, b2, b3, b4⟩ := at_T46 hC6 (k2 : Int) (by omega) hltzB
          subst ea
          obtain ⟨s, hs⟩ := ex_get hltB
          rw [rd46 hs] at b0 b1 b2 b3 b4
          simp only [Int.toNat_natCast] at b0 b1 b2 b3 b4
          have HSs := Aside0.mk hs
          have a0 := HA6.out.1
          have a1 := HA6.out.2
          clear hx0 hC6 hs
          go_wp2_with fail
          by_cases e0 : s.f0 = y.f0
          · by_cases e1 : s.f1 = y.f1
            · rw [e0] at b0
              rw [e1] at b1
              have HHd := Aside0.mk (show _ ∧ _ ∧ _ ∧ _ ∧ _ from ⟨m1, a0, a1, b0, b1⟩)
              have HCell := Aside0.mk (show _ ∧ _ ∧ _ from ⟨b2, b3, b4⟩)
              have HE0 := Aside0.mk e0
              clear e0
              have HE1 := Aside0.mk e1
              clear e1
              clear m1 a0 a1 b0 b1 b2 b3 b4
              refine start_ (n := 26) (S := fun w' => w'.cell? ⟨w.heap.size, 1, none⟩ = some (.slice (some ad2) f.ss.length c1) ∧ w'.cell? (ad.add (k * 3)) = some (.int .i64 y.f0) ∧ w'.cell? ⟨(ad.add (k * 3)).block, (ad.add (k * 3)).off + 1, none⟩ = some (.int .i64 y.f1) ∧ w'.cell? (ad2.add (k2 * 5)) = some (.int .i64 y.f0) ∧ w'.cell? ⟨(ad2.add (k2 * 5)).block, (ad2.add (k2 * 5)).off + 1, none⟩ = some (.int .i64 y.f1)) (ds := []) #[false, false, false, false, false, false, false, false, false, false, false, false, false, false, false, false, false, false, false, false, false, false, false, false, false, false] (by kernel_rfl) rfl rfl ⟨((below_drew1 (Below.refl w6.heap.size w6)).cell (World.block_lt_of_cell? _ _ HHd.out.1)).trans HHd.out.1, ((below_drew1 (Below.refl w6.heap.size w6)).cell (World.block_lt_of_cell? _ _ HHd.out.2.1)).trans HHd.out.2.1, ((below_drew1 (Below.refl w6.heap.size w6)).cell (World.block_lt_of_cell? _ _ HHd.out.2.2.1)).trans HHd.out.2.2.1, ((below_drew1 (Below.refl w6.heap.size w6)).cell (World.block_lt_of_cell? _ _ HHd.out.2.2.2.1)).trans HHd.out.2.2.2.1, ((below_drew1 (Below.refl w6.heap.size w6)).cell (World.block_lt_of_cell? _ _ HHd.out.2.2.2.2)).trans HHd.out.2.2.2.2⟩ (fun hHeld => ?_); refine with_tab tab22_10 (fun HT_ => ?_)
              have hBA := below_drew1 (Below.refl w6.heap.size w6)
              generalize w6.drew = wA at hBA hHeld ⊢
              have HFrA := Aside0.mk (HFr6.out.below hBA)
              have HOA := Aside0.mk ((hBA.block _ (lt_of HO6.out)).trans HO6.out)
              have HSA := Aside0.mk (Kd.R_below HS6.out hBA)
              have HRA := Aside0.mk (Kd.R_below HR6.out hBA)
              have HAA := Aside0.mk (And.intro ((hBA.cell (World.block_lt_of_cell? _ _ HA6.out.1)).trans HA6.out.1) ((hBA.cell (World.block_lt_of_cell? _ _ HA6.out.2)).trans HA6.out.2))
              have c2_ := (hBA.cell (World.block_lt_of_cell? _ _ HCell.out.1)).trans HCell.out.1
              have c3_ := (hBA.cell (World.block_lt_of_cell? _ _ HCell.out.2.1)).trans HCell.out.2.1
              have c4_ := (hBA.cell (World.block_lt_of_cell? _ _ HCell.out.2.2)).trans HCell.out.2.2
              have HCc := Aside0.mk (And.intro c2_ (And.intro c3_ c4_))
              clear hBA c2_ c3_ c4_
              refine pure_ (i := 0) (N := some 33) (v := ?_) (a' := ?_) #[true, false, false, false, false, false, false, false, false, false, false, false, false, false, false, false, false, false, false, false, false, false, false, false, false, false] rfl rfl (any_of HT_.out (by kernel_rfl)) (fun _ _ _ h => h) (Or.inl ⟨by rfl, ?_⟩) ?_ ?_
              rotate_left
              · intro w'
                go_simp
                with_reducible rfl
              rotate_left
              · simp only [Act.put, List.setIfInBounds_toArray, List.set_cons_zero, List.set_cons_succ, i64_w, i32_w]
                rfl
              refine pure_ (i := 2) (N := some 35) (v := ?_) (a' := ?_) #[true, false, true, false, false, false, false, false, false, false, false, false, false, false, false, false, false, false, false, false, false, false, false, false, false, false] rfl rfl (any_of HT_.out (by kernel_rfl)) (fun _ _ _ h => h) (Or.inl ⟨by rfl, ?_⟩) ?_ ?_
              rotate_left
              · intro w'
                go_simp
                with_reducible rfl
              rotate_left
              · simp only [Act.put, List.setIfInBounds_toArray, List.set_cons_zero, List.set_cons_succ, i64_w, i32_w]
                rfl
              refine pure_ (i := 6) (N := some 39) (v := ?_) (a' := ?_) #[true, false, true, false, false, false, true, false, false, false, false, false, false, false, false, false, false, false, false, false, false, false, false, false, false, false] rfl rfl (any_of HT_.out (by kernel_rfl)) (fun _ _ _ h => h) (Or.inl ⟨by rfl, ?_⟩) ?_ ?_
              rotate_left
              · intro w'
                go_simp
                with_reducible rfl
              rotate_left
              · simp only [Act.put, List.setIfInBounds_toArray, List.set_cons_zero, List.set_cons_succ, i64_w, i32_w]
                rfl
              refine pure_ (i := 7) (N := some 40) (v := ?_) (a' := ?_) #[true, false, true, false, false, false, true, true, false, false, false, false, false, false, false, false, false, false, false, false, false, false, false, false, false, false] rfl rfl (any_of HT_.out (by kernel_rfl)) (fun _ _ _ h => h) (Or.inl ⟨by rfl, ?_⟩) ?_ ?_
              rotate_left
              · intro w'
                go_simp
                with_reducible rfl
              rotate_left
              · simp only [Act.put, List.setIfInBounds_toArray, List.set_cons_zero, List.set_cons_succ, i64_w, i32_w]
                rfl
              refine pure_ (i := 8) (N := some 41) (v := ?_) (a' := ?_) #[true, false, true, false, false, false, true, true, true, false, false, false, false, false, false, false, false, false, false, false, false, false, false, false, false, false] rfl rfl (any_of HT_.out (by kernel_rfl)) (fun _ _ _ h => h) (Or.inl ⟨by rfl, ?_⟩) ?_ ?_
              rotate_left
              · intro w'
                go_simp
                with_reducible rfl
              rotate_left
              · simp only [Act.put, List.setIfInBounds_toArray, List.set_cons_zero, List.set_cons_succ, i64_w, i32_w]
                rfl
              refine pure_ (i := 9) (N := some 42) (v := ?_) (a' := ?_) #[true, false, true, false, false, false, true, true, true, true, false, false, false, false, false, false, false, false, false, false, false, false, false, false, false, false] rfl rfl (any_of HT_.out (by kernel_rfl)) (fun _ _ _ h => h) (Or.inl ⟨by rfl, ?_⟩) ?_ ?_
              rotate_left
              · intro w'
                go_simp
                with_reducible rfl
              rotate_left
              · simp only [Act.put, List.setIfInBounds_toArray, List.set_cons_zero, List.set_cons_succ, i64_w, i32_w]
                rfl
              refine take_ (i := 1) (N := some 34) (v := ?_) (a' := ?_) #[true, true, true, false, false, false, true, true, true, true, false, false, false, false, false, false, false, false, false, false, false, false, false, false, false, false] rfl rfl (take_of HT_.out (by kernel_rfl)) (fun _ _ _ h => h) (Or.inl ⟨by rfl, ?_⟩) hHeld ?_ ?_
              rotate_left
              · rintro w' ⟨s0, s1, s2, s3, s4⟩
                go_simp
                with_reducible rfl
              rotate_left
              · simp only [Act.put, List.setIfInBounds_toArray, List.set_cons_zero, List.set_cons_succ, i64_w, i32_w]
                rfl
              refine pure_ (i := 3) (N := some 36) (v := ?_) (a' := ?_) #[true, true, true, true, false, false, true, true, true, true, false, false, false, false, false, false, false, false, false, false, false, false, false, false, false, false] rfl rfl (any_of HT_.out (by kernel_rfl)) (fun _ _ _ h => h) (Or.inl ⟨by rfl, ?_⟩) ?_ ?_
              rotate_left
              · intro w'
                go_simp
                with_reducible rfl
              rotate_left
              · simp only [Act.put, List.setIfInBounds_toArray, List.set_cons_zero, List.set_cons_succ, i64_w, i32_w]
                rfl
              refine pure_ (i := 4) (N := some 37) (v := ?_) (a' := ?_) #[true, true, true, true, true, false, true, true, true, true, false, false, false, false, false, false, false, false, false, false, false, false, false, false, false, false] rfl rfl (any_of HT_.out (by kernel_rfl)) (fun _ _ _ h => h) (Or.inl ⟨by rfl, ?_⟩) ?_ ?_
              rotate_left
              · intro w'
                go_simp
                with_reducible rfl
              rotate_left
              · simp only [Act.put, List.setIfInBounds_toArray, List.set_cons_zero, List.set_cons_succ, i64_w, i32_w]
                rfl
              refine take_ (i := 5) (N := some 38) (v := ?_) (a' := ?_) #[true, true, true, true, true, true, true, true, true, true, false, false, false, false, false, false, false, false, false, false, false, false, false, false, false, false] rfl rfl (take_of HT_.out (by kernel_rfl)) (fun _ _ _ h => h) (Or.inl ⟨by rfl, ?_⟩) hHeld ?_ ?_
              rotate_left
              · rintro w' ⟨s0, s1, s2, s3, s4⟩
                go_simp
                with_reducible rfl
              rotate_left
              · simp only [Act.put, List.setIfInBounds_toArray, List.set_cons_zero, List.set_cons_succ, i64_w, i32_w]
                rfl
              refine take_ (i := 10) (N := some 43) (v := ?_) (a' := ?_) #[true, true, true, true, true, true, true, true, true, true, true, false, false, false, false, false, false, false, false, false, false, false, false, false, false, false] rfl rfl (take_of HT_.out (by kernel_rfl)) (fun _ _ _ h => h) (Or.inl ⟨by rfl, ?_⟩) hHeld ?_ ?_
              rotate_left
              · rintro w' ⟨s0, s1, s2, s3, s4⟩
                go_simp
                with_reducible rfl
              rotate_left
              · simp only [Act.put, List.setIfInBounds_toArray, List.set_cons_zero, List.set_cons_succ, i64_w, i32_w]
                rfl
              refine pure_ (i := 11) (N := some 44) (v := ?_) (a' := ?_) #[true, true, true, true, true, true, true, true, true, true, true, true, false, false, false, false, false, false, false, false, false, false, false, false, false, false] rfl rfl (any_of HT_.out (by kernel_rfl)) (fun _ _ _ h => h) (Or.inl ⟨by rfl, ?_⟩) ?_ ?_
              rotate_left
              · intro w'
                go_simp
                with_reducible rfl
              rotate_left
              · simp only [Act.put, List.setIfInBounds_toArray, List.set_cons_zero, List.set_cons_succ, i64_w, i32_w]
                rfl
              refine pure_ (i := 12) (N := some 45) (v := ?_) (a' := ?_) #[true, true, true, true, true, true, true, true, true, true, true, true, true, false, false, false, false, false, false, false, false, false, false, false, false, false] rfl rfl (any_of HT_.out (by kernel_rfl)) (fun _ _ _ h => h) (Or.inl ⟨by rfl, ?_⟩) ?_ ?_
              rotate_left
              · intro w'
                go_simp
                with_reducible rfl
              rotate_left
              · simp only [Act.put, List.setIfInBounds_toArray, List.set_cons_zero, List.set_cons_succ, i64_w, i32_w]
                rfl
              refine pure_ (i := 13) (N := some 46) (v := ?_) (a' := ?_) #[true, true, true, true, true, true, true, true, true, true, true, true, true, true, false, false, false, false, false, false, false, false, false, false, false, false] rfl rfl (any_of HT_.out (by kernel_rfl)) (fun _ _ _ h => h) (Or.inl ⟨by rfl, ?_⟩) ?_ ?_
              rotate_left
              · intro w'
                go_simp
                with_reducible rfl
              rotate_left
              · simp only [Act.put, List.setIfInBounds_toArray, List.set_cons_zero, List.set_cons_succ, i64_w, i32_w]
                rfl
              refine pure_ (i := 15) (N := some 48) (v := ?_) (a' := ?_) #[true, true, true, true, true, true, true, true, true, true, true, true, true, true, false, true, false, false, false, false, false, false, false, false, false, false] rfl rfl (any_of HT_.out (by kernel_rfl)) (fun _ _ _ h => h) (Or.inl ⟨by rfl, ?_⟩) ?_ ?_
              rotate_left
              · intro w'
                go_simp
                with_reducible rfl
              rotate_left
              · simp only [Act.put, List.setIfInBounds_toArray, List.set_cons_zero, List.set_cons_succ, i64_w, i32_w]
                rfl
              refine pure_ (i := 19) (N := some 52) (v := ?_) (a' := ?_) #[true, true, true, true, true, true, true, true, true, true, true, true, true, true, false, true, false, false, false, true, false, false, false, false, false, false] rfl rfl (any_of HT_.out (by kernel_rfl)) (fun _ _ _ h => h) (Or.inl ⟨by rfl, ?_⟩) ?_ ?_
              rotate_left
              · intro w'
                go_simp
                with_reducible rfl
              rotate_left
              · simp only [Act.put, List.setIfInBounds_toArray, List.set_cons_zero, List.set_cons_succ, i64_w, i32_w]
                rfl
              refine pure_ (i := 20) (N := some 53) (v := ?_) (a' := ?_) #[true, true, true, true, true, true, true, true, true, true, true, true, true, true, false, true, false, false, false, true, true, false, false, false, false, false] rfl rfl (any_of HT_.out (by kernel_rfl)) (fun _ _ _ h => h) (Or.inl ⟨by rfl, ?_⟩) ?_ ?_
              rotate_left
              · intro w'
                go_simp
                with_reducible rfl
              rotate_left
              · simp only [Act.put, List.setIfInBounds_toArray, List.set_cons_zero, List.set_cons_succ, i64_w, i32_w]
                rfl
              refine pure_ (i := 21) (N := some 54) (v := ?_) (a' := ?_) #[true, true, true, true, true, true, true, true, true, true, true, true, true, true, false, true, false, false, false, true, true, true, false, false, false, false] rfl rfl (any_of HT_.out (by kernel_rfl)) (fun _ _ _ h => h) (Or.inl ⟨by rfl, ?_⟩) ?_ ?_
              rotate_left
              · intro w'
                go_simp
                with_reducible rfl
              rotate_left
              · simp only [Act.put, List.setIfInBounds_toArray, List.set_cons_zero, List.set_cons_succ, i64_w, i32_w]
                rfl
              refine pure_ (i := 22) (N := some 55) (v := ?_) (a' := ?_) #[true, true, true, true, true, true, true, true, true, true, true, true, true, true, false, true, false, false, false, true, true, true, true, false, false, false] rfl rfl (any_of HT_.out (by kernel_rfl)) (fun _ _ _ h => h) (Or.inl ⟨by rfl, ?_⟩) ?_ ?_
              rotate_left
              · intro w'
                go_simp
                with_reducible rfl
              rotate_left
              · simp only [Act.put, List.setIfInBounds_toArray, List.set_cons_zero, List.set_cons_succ, i64_w, i32_w]
                rfl
              refine take_ (i := 14) (N := some 47) (v := ?_) (a' := ?_) #[true, true, true, true, true, true, true, true, true, true, true, true, true, true, true, true, false, false, false, true, true, true, true, false, false, false] rfl rfl (take_of HT_.out (by kernel_rfl)) (fun _ _ _ h => h) (Or.inl ⟨by rfl, ?_⟩) hHeld ?_ ?_
              rotate_left
              · rintro w' ⟨s0, s1, s2, s3, s4⟩
                go_simp
                with_reducible rfl
              rotate_left
              · simp only [Act.put, List.setIfInBounds_toArray, List.set_cons_zero, List.set_cons_succ, i64_w, i32_w]
                rfl
              refine pure_ (i := 16) (N := some 49) (v := ?_) (a' := ?_) #[true, true, true, true, true, true, true, true, true, true, true, true, true, true, true, true, true, false, false, true, true, true, true, false, false, false] rfl rfl (any_of HT_.out (by kernel_rfl)) (fun _ _ _ h => h) (Or.inl ⟨by rfl, ?_⟩) ?_ ?_
              rotate_left
              · intro w'
                go_simp
                with_reducible rfl
              rotate_left
              · simp only [Act.put, List.setIfInBounds_toArray, List.set_cons_zero, List.set_cons_succ, i64_w, i32_w]
                rfl
              refine pure_ (i := 17) (N := some 50) (v := ?_) (a' := ?_) #[true, true, true, true, true, true, true, true, true, true, true, true, true, true, true, true, true, true, false, true, true, true, true, false, false, false] rfl rfl (any_of HT_.out (by kernel_rfl)) (fun _ _ _ h => h) (Or.inl ⟨by rfl, ?_⟩) ?_ ?_
              rotate_left
              · intro w'
                go_simp
                with_reducible rfl
              rotate_left
              · simp only [Act.put, List.setIfInBounds_toArray, List.set_cons_zero, List.set_cons_succ, i64_w, i32_w]
                rfl
              refine take_ (i := 18) (N := some 51) (v := ?_) (a' := ?_) #[true, true, true, true, true, true, true, true, true, true, true, true, true, true, true, true, true, true, true, true, true, true, true, false, false, false] rfl rfl (take_of HT_.out (by kernel_rfl)) (fun _ _ _ h => h) (Or.inl ⟨by rfl, ?_⟩) hHeld ?_ ?_
              rotate_left
              · rintro w' ⟨s0, s1, s2, s3, s4⟩
                go_simp
                with_reducible rfl
              rotate_left
              · simp only [Act.put, List.setIfInBounds_toArray, List.set_cons_zero, List.set_cons_succ, i64_w, i32_w]
                rfl
              refine take_ (i := 23) (N := some 56) (v := ?_) (a' := ?_) #[true, true, true, true, true, true, true, true, true, true, true, true, true, true, true, true, true, true, true, true, true, true, true, true, false, false] rfl rfl (take_of HT_.out (by kernel_rfl)) (fun _ _ _ h => h) (Or.inl ⟨by rfl, ?_⟩) hHeld ?_ ?_
              rotate_left
              · rintro w' ⟨s0, s1, s2, s3, s4⟩
                go_simp
                with_reducible rfl
              rotate_left
              · simp only [Act.put, List.setIfInBounds_toArray, List.set_cons_zero, List.set_cons_succ, i64_w, i32_w]
                rfl
              refine pure_ (i := 24) (N := some 57) (v := ?_) (a' := ?_) #[true, true, true, true, true, true, true, true, true, true, true, true, true, true, true, true, true, true, true, true, true, true, true, true, true, false] rfl rfl (any_of HT_.out (by kernel_rfl)) (fun _ _ _ h => h) (Or.inl ⟨by rfl, ?_⟩) ?_ ?_
              rotate_left
              · intro w'
                go_simp
                with_reducible rfl
              rotate_left
              · simp only [Act.put, List.setIfInBounds_toArray, List.set_cons_zero, List.set_cons_succ, i64_w, i32_w]
                rfl
              refine pure_ (i := 25) (N := some 58) (v := ?_) (a' := ?_) #[true, true, true, true, true, true, true, true, true, true, true, true, true, true, true, true, true, true, true, true, true, true, true, true, true, true] rfl rfl (any_of HT_.out (by kernel_rfl)) (fun _ _ _ h => h) (Or.inl ⟨by rfl, ?_⟩) ?_ ?_
              rotate_left
              · intro w'
                go_simp
                with_reducible rfl
              rotate_left
              · simp only [Act.put, List.setIfInBounds_toArray, List.set_cons_zero, List.set_cons_succ, i64_w, i32_w]
                rfl
              refine done_ (done_of HT_.out (by kernel_rfl)) ?_
              have HHe := Aside0.mk hHeld
              clear hHeld HT_ HFr6 HO6 HS6 HR6 HA6
              --@G1
              have m1 := HHe.out.1
              have b2 := HCc.out.1
              have b3 := HCc.out.2.1
              have b4 := HCc.out.2.2
              have hB7 := below_alloc (Below.refl wA.heap.size wA) (.cells #[.string s.f2.f0, .string s.f2.f1, .bool s.f2.f2] 44)
              have HB7 := Aside0.mk hB7
              have HX7 := Aside0.mk (heap_new wA (.cells #[.string s.f2.f0, .string s.f2.f1, .bool s.f2.f2] 44))
              have HR7 := Aside0.mk (Kd.R_below HRA.out hB7)
              have HBs7 := Aside0.mk (Nat.le_trans HFrA.out.size hB7.size)
              have HFr7 := Aside0.mk (HFrA.out.below hB7)
              have HO7 := Aside0.mk ((hB7.block _ (lt_of HOA.out)).trans HOA.out)
              have HS7 := Aside0.mk (Kd.R_below HSA.out hB7)
              have hll : ((rangesAt (f.ss.take k2) ⟨y.f0, y.f1⟩).length + 1) * 40 ≤ 140737488355328 := by have h1 := rangesAt_len (f.ss.take k2) ⟨y.f0, y.f1⟩; have h2 := List.length_take_le k2 f.ss; omega
              have HLL := Aside0.mk hll
              clear hB7 hll
              skip
              --@G2
              go_wp2_with ((with_reducible refine gate_builtin (b := .append) (xs := #[.tmp 59, .tmp 66]) rfl ?_); at_builtin; (refine app44 (wA.alloc (.cells #[.string s.f2.f0, .string s.f2.f1, .bool s.f2.f2] 44)) rfl (.tmp 59) (.tmp 66) rfl w3.heap.size u6 (rangesAt (f.ss.take k2) ⟨y.f0, y.f1⟩) s.f2 rfl wA.heap.size rfl HX7.out HR7.out HBs7.out HLL.out ?_); intro v8 w8 hv8 hg8 hat8; have HR8 := Aside0.mk hv8; have HFr8 := Aside0.mk (HFr7.out.grown hg8 (fun k e => Kd.R_base HR7.out k e)); have HO8 := Aside0.mk (blk_by HR7.out HO7.out (by decide) hg8); have HS8 := Aside0.mk (R46_by44 HS7.out HR7.out hg8); have HA8 := Aside0.mk (And.intro (HFr8.out.cell HX3.out HSl.out HA3.out.1 rfl) (HFr8.out.cell HX3.out HSl.out HA3.out.2 rfl)); clear hv8 hg8 hat8)
              --@G3
              go_roundg (f.ss.length - (k2 + 1))
              case measure => have := HM6.out; omega
              case rel => exact ⟨k2 + 1, by go_num, hltB, ⟨Nat.le_refl _⟩, ⟨HFr8.out⟩, ⟨HO8.out⟩, ⟨HS8.out⟩, ⟨by rw [take_snoc HSs.out, rangesAt_snoc]; rw [if_pos (by unfold plS; rw [HE0.out, HE1.out])]; exact HR8.out⟩, ⟨HA8.out⟩⟩
            · rw [e0] at b0
              have HHd := Aside0.mk (show _ ∧ _ ∧ _ ∧ _ ∧ _ from ⟨m1, a0, a1, b0, b1⟩)
              have HCell := Aside0.mk (show _ ∧ _ ∧ _ from ⟨b2, b3, b4⟩)
              have HE0 := Aside0.mk e0
              clear e0
              have e1b : (s.f1 == y.f1) = false := by simpa using e1
              have HE1 := Aside0.mk e1
              clear e1
              clear m1 a0 a1 b0 b1 b2 b3 b4
              refine start_ (n := 26) (S := fun w' => w'.cell? ⟨w.heap.size, 1, none⟩ = some (.slice (some ad2) f.ss.length c1) ∧ w'.cell? (ad.add (k * 3)) = some (.int .i64 y.f0) ∧ w'.cell? ⟨(ad.add (k * 3)).block, (ad.add (k * 3)).off + 1, none⟩ = some (.int .i64 y.f1) ∧ w'.cell? (ad2.add (k2 * 5)) = some (.int .i64 y.f0) ∧ w'.cell? ⟨(ad2.add (k2 * 5)).block, (ad2.add (k2 * 5)).off + 1, none⟩ = some (.int .i64 s.f1)) (ds := []) #[false, false, false, false, false, false, false, false, false, false, false, false, false, false, false, false, false, false, false, false, false, false, false, false, false, false] (by kernel_rfl) rfl rfl ⟨((below_drew1 (Below.refl w6.heap.size w6)).cell (World.block_lt_of_cell? _ _ HHd.out.1)).trans HHd.out.1, ((below_drew1 (Below.refl w6.heap.size w6)).cell (World.block_lt_of_cell? _ _ HHd.out.2.1)).trans HHd.out.2.1, ((below_drew1 (Below.refl w6.heap.size w6)).cell (World.block_lt_of_cell? _ _ HHd.out.2.2.1)).trans HHd.out.2.2.1, ((below_drew1 (Below.refl w6.heap.size w6)).cell (World.block_lt_of_cell? _ _ HHd.out.2.2.2.1)).trans HHd.out.2.2.2.1, ((below_drew1 (Below.refl w6.heap.size w6)).cell (World.block_lt_of_cell? _ _ HHd.out.2.2.2.2)).trans HHd.out.2.2.2.2⟩ (fun hHeld => ?_); refine with_tab tab22_10 (fun HT_ => ?_)
              have hBA := below_drew1 (Below.refl w6.heap.size w6)
              generalize w6.drew = wA at hBA hHeld ⊢
              have HFrA := Aside0.mk (HFr6.out.below hBA)
              have HOA := Aside0.mk ((hBA.block _ (lt_of HO6.out)).trans HO6.out)
              have HSA := Aside0.mk (Kd.R_below HS6.out hBA)
              have HRA := Aside0.mk (Kd.R_below HR6.out hBA)
              have HAA := Aside0.mk (And.intro ((hBA.cell (World.block_lt_of_cell? _ _ HA6.out.1)).trans HA6.out.1) ((hBA.cell (World.block_lt_of_cell? _ _ HA6.out.2)).trans HA6.out.2))
              have c2_ := (hBA.cell (World.block_lt_of_cell? _ _ HCell.out.1)).trans HCell.out.1
              have c3_ := (hBA.cell (World.block_lt_of_cell? _ _ HCell.out.2.1)).trans HCell.out.2.1
              have c4_ := (hBA.cell (World.block_lt_of_cell? _ _ HCell.out.2.2)).trans HCell.out.2.2
              have HCc := Aside0.mk (And.intro c2_ (And.intro c3_ c4_))
              clear hBA c2_ c3_ c4_
              refine pure_ (i := 0) (N := some 33) (v := ?_) (a' := ?_) #[true, false, false, false, false, false, false, false, false, false, false, false, false, false, false, false, false, false, false, false, false, false, false, false, false, false] rfl rfl (any_of HT_.out (by kernel_rfl)) (fun _ _ _ h => h) (Or.inl ⟨by rfl, ?_⟩) ?_ ?_
              rotate_left
              · intro w'
                go_simp
                with_reducible rfl
              rotate_left
              · simp only [Act.put, List.setIfInBounds_toArray, List.set_cons_zero, List.set_cons_succ, i64_w, i32_w]
                rfl
              refine pure_ (i := 2) (N := some 35) (v := ?_) (a' := ?_) #[true, false, true, false, false, false, false, false, false, false, false, false, false, false, false, false, false, false, false, false, false, false, false, false, false, false] rfl rfl (any_of HT_.out (by kernel_rfl)) (fun _ _ _ h => h) (Or.inl ⟨by rfl, ?_⟩) ?_ ?_
              rotate_left
              · intro w'
                go_simp
                with_reducible rfl
              rotate_left
              · simp only [Act.put, List.setIfInBounds_toArray, List.set_cons_zero, List.set_cons_succ, i64_w, i32_w]
                rfl
              refine pure_ (i := 6) (N := some 39) (v := ?_) (a' := ?_) #[true, false, true, false, false, false, true, false, false, false, false, false, false, false, false, false, false, false, false, false, false, false, false, false, false, false] rfl rfl (any_of HT_.out (by kernel_rfl)) (fun _ _ _ h => h) (Or.inl ⟨by rfl, ?_⟩) ?_ ?_
              rotate_left
              · intro w'
                go_simp
                with_reducible rfl
              rotate_left
              · simp only [Act.put, List.setIfInBounds_toArray, List.set_cons_zero, List.set_cons_succ, i64_w, i32_w]
                rfl
              refine pure_ (i := 7) (N := some 40) (v := ?_) (a' := ?_) #[true, false, true, false, false, false, true, true, false, false, false, false, false, false, false, false, false, false, false, false, false, false, false, false, false, false] rfl rfl (any_of HT_.out (by kernel_rfl)) (fun _ _ _ h => h) (Or.inl ⟨by rfl, ?_⟩) ?_ ?_
              rotate_left
              · intro w'
                go_simp
                with_reducible rfl
              rotate_left
              · simp only [Act.put, List.setIfInBounds_toArray, List.set_cons_zero, List.set_cons_succ, i64_w, i32_w]
                rfl
              refine pure_ (i := 8) (N := some 41) (v := ?_) (a' := ?_) #[true, false, true, false, false, false, true, true, true, false, false, false, false, false, false, false, false, false, false, false, false, false, false, false, false, false] rfl rfl (any_of HT_.out (by kernel_rfl)) (fun _ _ _ h => h) (Or.inl ⟨by rfl, ?_⟩) ?_ ?_
              rotate_left
              · intro w'
                go_simp
                with_reducible rfl
              rotate_left
              · simp only [Act.put, List.setIfInBounds_toArray, List.set_cons_zero, List.set_cons_succ, i64_w, i32_w]
                rfl
              refine pure_ (i := 9) (N := some 42) (v := ?_) (a' := ?_) #[true, false, true, false, false, false, true, true, true, true, false, false, false, false, false, false, false, false, false, false, false, false, false, false, false, false] rfl rfl (any_of HT_.out (by kernel_rfl)) (fun _ _ _ h => h) (Or.inl ⟨by rfl, ?_⟩) ?_ ?_
              rotate_left
              · intro w'
                go_simp
                with_reducible rfl
              rotate_left
              · simp only [Act.put, List.setIfInBounds_toArray, List.set_cons_zero, List.set_cons_succ, i64_w, i32_w]
                rfl
              refine take_ (i := 1) (N := some 34) (v := ?_) (a' := ?_) #[true, true, true, false, false, false, true, true, true, true, false, false, false, false, false, false, false, false, false, false, false, false, false, false, false, false] rfl rfl (take_of HT_.out (by kernel_rfl)) (fun _ _ _ h => h) (Or.inl ⟨by rfl, ?_⟩) hHeld ?_ ?_
              rotate_left
              · rintro w' ⟨s0, s1, s2, s3, s4⟩
                go_simp
                with_reducible rfl
              rotate_left
              · simp only [Act.put, List.setIfInBounds_toArray, List.set_cons_zero, List.set_cons_succ, i64_w, i32_w]
                rfl
              refine pure_ (i := 3) (N := some 36) (v := ?_) (a' := ?_) #[true, true, true, true, false, false, true, true, true, true, false, false, false, false, false, false, false, false, false, false, false, false, false, false, false, false] rfl rfl (any_of HT_.out (by kernel_rfl)) (fun _ _ _ h => h) (Or.inl ⟨by rfl, ?_⟩) ?_ ?_
              rotate_left
              · intro w'
                go_simp
                with_reducible rfl
              rotate_left
              · simp only [Act.put, List.setIfInBounds_toArray, List.set_cons_zero, List.set_cons_succ, i64_w, i32_w]
                rfl
              refine pure_ (i := 4) (N := some 37) (v := ?_) (a' := ?_) #[true, true, true, true, true, false, true, true, true, true, false, false, false, false, false, false, false, false, false, false, false, false, false, false, false, false] rfl rfl (any_of HT_.out (by kernel_rfl)) (fun _ _ _ h => h) (Or.inl ⟨by rfl, ?_⟩) ?_ ?_
              rotate_left
              · intro w'
                go_simp
                with_reducible rfl
              rotate_left
              · simp only [Act.put, List.setIfInBounds_toArray, List.set_cons_zero, List.set_cons_succ, i64_w, i32_w]
                rfl
              refine take_ (i := 5) (N := some 38) (v := ?_) (a' := ?_) #[true, true, true, true, true, true, true, true, true, true, false, false, false, false, false, false, false, false, false, false, false, false, false, false, false, false] rfl rfl (take_of HT_.out (by kernel_rfl)) (fun _ _ _ h => h) (Or.inl ⟨by rfl, ?_⟩) hHeld ?_ ?_
              rotate_left
              · rintro w' ⟨s0, s1, s2, s3, s4⟩
                go_simp
                with_reducible rfl
              rotate_left
              · simp only [Act.put, List.setIfInBounds_toArray, List.set_cons_zero, List.set_cons_succ, i64_w, i32_w]
                rfl
              refine take_ (i := 10) (N := some 43) (v := ?_) (a' := ?_) #[true, true, true, true, true, true, true, true, true, true, true, false, false, false, false, false, false, false, false, false, false, false, false, false, false, false] rfl rfl (take_of HT_.out (by kernel_rfl)) (fun _ _ _ h => h) (Or.inl ⟨by rfl, ?_⟩) hHeld ?_ ?_
              rotate_left
              · rintro w' ⟨s0, s1, s2, s3, s4⟩
                go_simp
                with_reducible rfl
              rotate_left
              · simp only [Act.put, List.setIfInBounds_toArray, List.set_cons_zero, List.set_cons_succ, i64_w, i32_w]
                rfl
              refine pure_ (i := 11) (N := some 44) (v := ?_) (a' := ?_) #[true, true, true, true, true, true, true, true, true, true, true, true, false, false, false, false, false, false, false, false, false, false, false, false, false, false] rfl rfl (any_of HT_.out (by kernel_rfl)) (fun _ _ _ h => h) (Or.inl ⟨by rfl, ?_⟩) ?_ ?_
              rotate_left
              · intro w'
                go_simp
                with_reducible rfl
              rotate_left
              · simp only [Act.put, List.setIfInBounds_toArray, List.set_cons_zero, List.set_cons_succ, i64_w, i32_w]
                rfl
              refine pure_ (i := 12) (N := some 45) (v := ?_) (a' := ?_) #[true, true, true, true, true, true, true, true, true, true, true, true, true, false, false, false, false, false, false, false, false, false, false, false, false, false] rfl rfl (any_of HT_.out (by kernel_rfl)) (fun _ _ _ h => h) (Or.inl ⟨by rfl, ?_⟩) ?_ ?_
              rotate_left
              · intro w'
                go_simp
                with_reducible rfl
              rotate_left
              · simp only [Act.put, List.setIfInBounds_toArray, List.set_cons_zero, List.set_cons_succ, i64_w, i32_w]
                rfl
              refine pure_ (i := 13) (N := some 46) (v := ?_) (a' := ?_) #[true, true, true, true, true, true, true, true, true, true, true, true, true, true, false, false, false, false, false, false, false, false, false, false, false, false] rfl rfl (any_of HT_.out (by kernel_rfl)) (fun _ _ _ h => h) (Or.inl ⟨by rfl, ?_⟩) ?_ ?_
              rotate_left
              · intro w'
                go_simp
                with_reducible rfl
              rotate_left
              · simp only [Act.put, List.setIfInBounds_toArray, List.set_cons_zero, List.set_cons_succ, i64_w, i32_w]
                rfl
              refine pure_ (i := 15) (N := some 48) (v := ?_) (a' := ?_) #[true, true, true, true, true, true, true, true, true, true, true, true, true, true, false, true, false, false, false, false, false, false, false, false, false, false] rfl rfl (any_of HT_.out (by kernel_rfl)) (fun _ _ _ h => h) (Or.inl ⟨by rfl, ?_⟩) ?_ ?_
              rotate_left
              · intro w'
                go_simp
                with_reducible rfl
              rotate_left
              · simp only [Act.put, List.setIfInBounds_toArray, List.set_cons_zero, List.set_cons_succ, i64_w, i32_w]
                rfl
              refine pure_ (i := 19) (N := some 52) (v := ?_) (a' := ?_) #[true, true, true, true, true, true, true, true, true, true, true, true, true, true, false, true, false, false, false, true, false, false, false, false, false, false] rfl rfl (any_of HT_.out (by kernel_rfl)) (fun _ _ _ h => h) (Or.inl ⟨by rfl, ?_⟩) ?_ ?_
              rotate_left
              · intro w'
                go_simp
                with_reducible rfl
              rotate_left
              · simp only [Act.put, List.setIfInBounds_toArray, List.set_cons_zero, List.set_cons_succ, i64_w, i32_w]
                rfl
              refine pure_ (i := 20) (N := some 53) (v := ?_) (a' := ?_) #[true, true, true, true, true, true, true, true, true, true, true, true, true, true, false, true, false, false, false, true, true, false, false, false, false, false] rfl rfl (any_of HT_.out (by kernel_rfl)) (fun _ _ _ h => h) (Or.inl ⟨by rfl, ?_⟩) ?_ ?_
              rotate_left
              · intro w'
                go_simp
                with_reducible rfl
              rotate_left
              · simp only [Act.put, List.setIfInBounds_toArray, List.set_cons_zero, List.set_cons_succ, i64_w, i32_w]
                rfl
              refine pure_ (i := 21) (N := some 54) (v := ?_) (a' := ?_) #[true, true, true, true, true, true, true, true, true, true, true, true, true, true, false, true, false, false, false, true, true, true, false, false, false, false] rfl rfl (any_of HT_.out (by kernel_rfl)) (fun _ _ _ h => h) (Or.inl ⟨by rfl, ?_⟩) ?_ ?_
              rotate_left
              · intro w'
                go_simp
                with_reducible rfl
              rotate_left
              · simp only [Act.put, List.setIfInBounds_toArray, List.set_cons_zero, List.set_cons_succ, i64_w, i32_w]
                rfl
              refine pure_ (i := 22) (N := some 55) (v := ?_) (a' := ?_) #[true, true, true, true, true, true, true, true, true, true, true, true, true, true, false, true, false, false, false, true, true, true, true, false, false, false] rfl rfl (any_of HT_.out (by kernel_rfl)) (fun _ _ _ h => h) (Or.inl ⟨by rfl, ?_⟩) ?_ ?_
              rotate_left
              · intro w'
                go_simp
                with_reducible rfl
              rotate_left
              · simp only [Act.put, List.setIfInBounds_toArray, List.set_cons_zero, List.set_cons_succ, i64_w, i32_w]
                rfl
              refine take_ (i := 14) (N := some 47) (v := ?_) (a' := ?_) #[true, true, true, true, true, true, true, true, true, true, true, true, true, true, true, true, false, false, false, true, true, true, true, false, false, false] rfl rfl (take_of HT_.out (by kernel_rfl)) (fun _ _ _ h => h) (Or.inl ⟨by rfl, ?_⟩) hHeld ?_ ?_
              rotate_left
              · rintro w' ⟨s0, s1, s2, s3, s4⟩
                go_simp
                with_reducible rfl
              rotate_left
              · simp only [Act.put, List.setIfInBounds_toArray, List.set_cons_zero, List.set_cons_succ, i64_w, i32_w]
                rfl
              refine pure_ (i := 16) (N := some 49) (v := ?_) (a' := ?_) #[true, true, true, true, true, true, true, true, true, true, true, true, true, true, true, true, true, false, false, true, true, true, true, false, false, false] rfl rfl (any_of HT_.out (by kernel_rfl)) (fun _ _ _ h => h) (Or.inl ⟨by rfl, ?_⟩) ?_ ?_
              rotate_left
              · intro w'
                go_simp
                with_reducible rfl
              rotate_left
              · simp only [Act.put, List.setIfInBounds_toArray, List.set_cons_zero, List.set_cons_succ, i64_w, i32_w]
                rfl
              refine pure_ (i := 17) (N := some 50) (v := ?_) (a' := ?_) #[true, true, true, true, true, true, true, true, true, true, true, true, true, true, true, true, true, true, false, true, true, true, true, false, false, false] rfl rfl (any_of HT_.out (by kernel_rfl)) (fun _ _ _ h => h) (Or.inl ⟨by rfl, ?_⟩) ?_ ?_
              rotate_left
              · intro w'
                go_simp
                with_reducible rfl
              rotate_left
              · simp only [Act.put, List.setIfInBounds_toArray, List.set_cons_zero, List.set_cons_succ, i64_w, i32_w]
                rfl
              refine take_ (i := 18) (N := some 51) (v := ?_) (a' := ?_) #[true, true, true, true, true, true, true, true, true, true, true, true, true, true, true, true, true, true, true, true, true, true, true, false, false, false] rfl rfl (take_of HT_.out (by kernel_rfl)) (fun _ _ _ h => h) (Or.inl ⟨by rfl, ?_⟩) hHeld ?_ ?_
              rotate_left
              · rintro w' ⟨s0, s1, s2, s3, s4⟩
                go_simp
                with_reducible rfl
              rotate_left
              · simp only [Act.put, List.setIfInBounds_toArray, List.set_cons_zero, List.set_cons_succ, i64_w, i32_w]
                rfl
              refine take_ (i := 23) (N := some 56) (v := ?_) (a' := ?_) #[true, true, true, true, true, true, true, true, true, true, true, true, true, true, true, true, true, true, true, true, true, true, true, true, false, false] rfl rfl (take_of HT_.out (by kernel_rfl)) (fun _ _ _ h => h) (Or.inl ⟨by rfl, ?_⟩) hHeld ?_ ?_
              rotate_left
              · rintro w' ⟨s0, s1, s2, s3, s4⟩
                go_simp
                with_reducible rfl
              rotate_left
              · simp only [Act.put, List.setIfInBounds_toArray, List.set_cons_zero, List.set_cons_succ, i64_w, i32_w]
                rfl
              refine pure_ (i := 24) (N := some 57) (v := ?_) (a' := ?_) #[true, true, true, true, true, true, true, true, true, true, true, true, true, true, true, true, true, true, true, true, true, true, true, true, true, false] rfl rfl (any_of HT_.out (by kernel_rfl)) (fun _ _ _ h => h) (Or.inl ⟨by rfl, ?_⟩) ?_ ?_
              rotate_left
              · intro w'
                go_simp
                with_reducible rfl
              rotate_left
              · simp only [Act.put, List.setIfInBounds_toArray, List.set_cons_zero, List.set_cons_succ, i64_w, i32_w]
                rfl
              refine pure_ (i := 25) (N := some 58) (v := ?_) (a' := ?_) #[true, true, true, true, true, true, true, true, true, true, true, true, true, true, true, true, true, true, true, true, true, true, true, true, true, true] rfl rfl (any_of HT_.out (by kernel_rfl)) (fun _ _ _ h => h) (Or.inl ⟨by rfl, ?_⟩) ?_ ?_
              rotate_left
              · intro w'
                go_simp
                with_reducible rfl
              rotate_left
              · simp only [Act.put, List.setIfInBounds_toArray, List.set_cons_zero, List.set_cons_succ, i64_w, i32_w]
                rfl
              refine done_ (done_of HT_.out (by kernel_rfl)) ?_
              have HHe := Aside0.mk hHeld
              clear hHeld HT_ HFr6 HO6 HS6 HR6 HA6
              --@G4
              go_wp2
              --@G5
              go_roundg (f.ss.length - (k2 + 1))
              case measure => have := HM6.out; omega
              case rel => exact ⟨k2 + 1, by go_num, hltB, ⟨Nat.le_refl _⟩, ⟨HFrA.out⟩, ⟨HOA.out⟩, ⟨HSA.out⟩, ⟨by rw [take_snoc HSs.out, rangesAt_snoc]; rw [if_neg (by unfold plS; intro e; have := congrArg SPl.f1 e; exact HE1.out this), List.append_nil]; exact HRA.out⟩, ⟨HAA.out⟩⟩
          · have HHd := Aside0.mk (show _ ∧ _ ∧ _ ∧ _ ∧ _ from ⟨m1, a0, a1, b0, b1⟩)
            have HCell := Aside0.mk (show _ ∧ _ ∧ _ from ⟨b2, b3, b4⟩)
            have e0b : (s.f0 == y.f0) = false := by simpa using e0
            have HE0 := Aside0.mk e0
            clear e0
            clear m1 a0 a1 b0 b1 b2 b3 b4
            refine start_ (n := 26) (S := fun w' => w'.cell? ⟨w.heap.size, 1, none⟩ = some (.slice (some ad2) f.ss.length c1) ∧ w'.cell? (ad.add (k * 3)) = some (.int .i64 y.f0) ∧ w'.cell? ⟨(ad.add (k * 3)).block, (ad.add (k * 3)).off + 1, none⟩ = some (.int .i64 y.f1) ∧ w'.cell? (ad2.add (k2 * 5)) = some (.int .i64 s.f0) ∧ w'.cell? ⟨(ad2.add (k2 * 5)).block, (ad2.add (k2 * 5)).off + 1, none⟩ = some (.int .i64 s.f1)) (ds := []) #[false, false, false, false, false, false, false, false, false, false, false, false, false, false, false, false, false, false, false, false, false, false, false, false, false, false] (by kernel_rfl) rfl rfl ⟨((below_drew1 (Below.refl w6.heap.size w6)).cell (World.block_lt_of_cell? _ _ HHd.out.1)).trans HHd.out.1, ((below_drew1 (Below.refl w6.heap.size w6)).cell (World.block_lt_of_cell? _ _ HHd.out.2.1)).trans HHd.out.2.1, ((below_drew1 (Below.refl w6.heap.size w6)).cell (World.block_lt_of_cell? _ _ HHd.out.2.2.1)).trans HHd.out.2.2.1, ((below_drew1 (Below.refl w6.heap.size w6)).cell (World.block_lt_of_cell? _ _ HHd.out.2.2.2.1)).trans HHd.out.2.2.2.1, ((below_drew1 (Below.refl w6.heap.size w6)).cell (World.block_lt_of_cell? _ _ HHd.out.2.2.2.2)).trans HHd.out.2.2.2.2⟩ (fun hHeld => ?_); refine with_tab tab22_10 (fun HT_ => ?_)
            have hBA := below_drew1 (Below.refl w6.heap.size w6)
            generalize w6.drew = wA at hBA hHeld ⊢
            have HFrA := Aside0.mk (HFr6.out.below hBA)
            have HOA := Aside0.mk ((hBA.block _ (lt_of HO6.out)).trans HO6.out)
            have HSA := Aside0.mk (Kd.R_below HS6.out hBA)
            have HRA := Aside0.mk (Kd.R_below HR6.out hBA)
            have HAA := Aside0.mk (And.intro ((hBA.cell (World.block_lt_of_cell? _ _ HA6.out.1)).trans HA6.out.1) ((hBA.cell (World.block_lt_of_cell? _ _ HA6.out.2)).trans HA6.out.2))
            have c2_ := (hBA.cell (World.block_lt_of_cell? _ _ HCell.out.1)).trans HCell.out.1
            have c3_ := (hBA.cell (World.block_lt_of_cell? _ _ HCell.out.2.1)).trans HCell.out.2.1
            have c4_ := (hBA.cell (World.block_lt_of_cell? _ _ HCell.out.2.2)).trans HCell.out.2.2
            have HCc := Aside0.mk (And.intro c2_ (And.intro c3_ c4_))
            clear hBA c2_ c3_ c4_
            refine pure_ (i := 0) (N := some 33) (v := ?_) (a' := ?_) #[true, false, false, false, false, false, false, false, false, false, false, false, false, false, false, false, false, false, false, false, false, false, false, false, false, false] rfl rfl (any_of HT_.out (by kernel_rfl)) (fun _ _ _ h => h) (Or.inl ⟨by rfl, ?_⟩) ?_ ?_
            rotate_left
            · intro w'
              go_simp
              with_reducible rfl
            rotate_left
            · simp only [Act.put, List.setIfInBounds_toArray, List.set_cons_zero, List.set_cons_succ, i64_w, i32_w]
              rfl
            refine pure_ (i := 2) (N := some 35) (v := ?_) (a' := ?_) #[true, false, true, false, false, false, false, false, false, false, false, false, false, false, false, false, false, false, false, false, false, false, false, false, false, false] rfl rfl (any_of HT_.out (by kernel_rfl)) (fun _ _ _ h => h) (Or.inl ⟨by rfl, ?_⟩) ?_ ?_
            rotate_left
            · intro w'
              go_simp
              with_reducible rfl
            rotate_left
            · simp only [Act.put, List.setIfInBounds_toArray, List.set_cons_zero, List.set_cons_succ, i64_w, i32_w]
              rfl
            refine pure_ (i := 6) (N := some 39) (v := ?_) (a' := ?_) #[true, false, true, false, false, false, true, false, false, false, false, false, false, false, false, false, false, false, false, false, false, false, false, false, false, false] rfl rfl (any_of HT_.out (by kernel_rfl)) (fun _ _ _ h => h) (Or.inl ⟨by rfl, ?_⟩) ?_ ?_
            rotate_left
            · intro w'
              go_simp
              with_reducible rfl
            rotate_left
            · simp only [Act.put, List.setIfInBounds_toArray, List.set_cons_zero, List.set_cons_succ, i64_w, i32_w]
              rfl
            refine pure_ (i := 7) (N := some 40) (v := ?_) (a' := ?_) #[true, false, true, false, false, false, true, true, false, false, false, false, false, false, false, false, false, false, false, false, false, false, false, false, false, false] rfl rfl (any_of HT_.out (by kernel_rfl)) (fun _ _ _ h => h) (Or.inl ⟨by rfl, ?_⟩) ?_ ?_
            rotate_left
            · intro w'
              go_simp
              with_reducible rfl
            rotate_left
            · simp only [Act.put, List.setIfInBounds_toArray, List.set_cons_zero, List.set_cons_succ, i64_w, i32_w]
              rfl
            refine pure_ (i := 8) (N := some 41) (v := ?_) (a' := ?_) #[true, false, true, false, false, false, true, true, true, false, false, false, false, false, false, false, false, false, false, false, false, false, false, false, false, false] rfl rfl (any_of HT_.out (by kernel_rfl)) (fun _ _ _ h => h) (Or.inl ⟨by rfl, ?_⟩) ?_ ?_
            rotate_left
            · intro w'
              go_simp
              with_reducible rfl
            rotate_left
            · simp only [Act.put, List.setIfInBounds_toArray, List.set_cons_zero, List.set_cons_succ, i64_w, i32_w]
              rfl
            refine pure_ (i := 9) (N := some 42) (v := ?_) (a' := ?_) #[true, false, true, false, false, false, true, true, true, true, false, false, false, false, false, false, false, false, false, false, false, false, false, false, false, false] rfl rfl (any_of HT_.out (by kernel_rfl)) (fun _ _ _ h => h) (Or.inl ⟨by rfl, ?_⟩) ?_ ?_
            rotate_left
            · intro w'
              go_simp
              with_reducible rfl
            rotate_left
            · simp only [Act.put, List.setIfInBounds_toArray, List.set_cons_zero, List.set_cons_succ, i64_w, i32_w]
              rfl
            refine take_ (i := 1) (N := some 34) (v := ?_) (a' := ?_) #[true, true, true, false, false, false, true, true, true, true, false, false, false, false, false, false, false, false, false, false, false, false, false, false, false, false] rfl rfl (take_of HT_.out (by kernel_rfl)) (fun _ _ _ h => h) (Or.inl ⟨by rfl, ?_⟩) hHeld ?_ ?_
            rotate_left
            · rintro w' ⟨s0, s1, s2, s3, s4⟩
              go_simp
              with_reducible rfl
            rotate_left
            · simp only [Act.put, List.setIfInBounds_toArray, List.set_cons_zero, List.set_cons_succ, i64_w, i32_w]
              rfl
            refine pure_ (i := 3) (N := some 36) (v := ?_) (a' := ?_) #[true, true, true, true, false, false, true, true, true, true, false, false, false, false, false, false, false, false, false, false, false, false, false, false, false, false] rfl rfl (any_of HT_.out (by kernel_rfl)) (fun _ _ _ h => h) (Or.inl ⟨by rfl, ?_⟩) ?_ ?_
            rotate_left
            · intro w'
              go_simp
              with_reducible rfl
            rotate_left
            · simp only [Act.put, List.setIfInBounds_toArray, List.set_cons_zero, List.set_cons_succ, i64_w, i32_w]
              rfl
            refine pure_ (i := 4) (N := some 37) (v := ?_) (a' := ?_) #[true, true, true, true, true, false, true, true, true, true, false, false, false, false, false, false, false, false, false, false, false, false, false, false, false, false] rfl rfl (any_of HT_.out (by kernel_rfl)) (fun _ _ _ h => h) (Or.inl ⟨by rfl, ?_⟩) ?_ ?_
            rotate_left
            · intro w'
              go_simp
              with_reducible rfl
            rotate_left
            · simp only [Act.put, List.setIfInBounds_toArray, List.set_cons_zero, List.set_cons_succ, i64_w, i32_w]
              rfl
            refine take_ (i := 5) (N := some 38) (v := ?_) (a' := ?_) #[true, true, true, true, true, true, true, true, true, true, false, false, false, false, false, false, false, false, false, false, false, false, false, false, false, false] rfl rfl (take_of HT_.out (by kernel_rfl)) (fun _ _ _ h => h) (Or.inl ⟨by rfl, ?_⟩) hHeld ?_ ?_
            rotate_left
            · rintro w' ⟨s0, s1, s2, s3, s4⟩
              go_simp
              with_reducible rfl
            rotate_left
            · simp only [Act.put, List.setIfInBounds_toArray, List.set_cons_zero, List.set_cons_succ, i64_w, i32_w]
              rfl
            refine take_ (i := 10) (N := some 43) (v := ?_) (a' := ?_) #[true, true, true, true, true, true, true, true, true, true, true, false, false, false, false, false, false, false, false, false, false, false, false, false, false, false] rfl rfl (take_of HT_.out (by kernel_rfl)) (fun _ _ _ h => h) (Or.inl ⟨by rfl, ?_⟩) hHeld ?_ ?_
            rotate_left
            · rintro w' ⟨s0, s1, s2, s3, s4⟩
              go_simp
              with_reducible rfl
            rotate_left
            · simp only [Act.put, List.setIfInBounds_toArray, List.set_cons_zero, List.set_cons_succ, i64_w, i32_w]
              rfl
            refine pure_ (i := 11) (N := some 44) (v := ?_) (a' := ?_) #[true, true, true, true, true, true, true, true, true, true, true, true, false, false, false, false, false, false, false, false, false, false, false, false, false, false] rfl rfl (any_of HT_.out (by kernel_rfl)) (fun _ _ _ h => h) (Or.inl ⟨by rfl, ?_⟩) ?_ ?_
            rotate_left
            · intro w'
              go_simp
              with_reducible rfl
            rotate_left
            · simp only [Act.put, List.setIfInBounds_toArray, List.set_cons_zero, List.set_cons_succ, i64_w, i32_w]
              rfl
            refine pure_ (i := 12) (N := some 45) (v := ?_) (a' := ?_) #[true, true, true, true, true, true, true, true, true, true, true, true, true, false, false, false, false, false, false, false, false, false, false, false, false, false] rfl rfl (any_of HT_.out (by kernel_rfl)) (fun _ _ _ h => h) (Or.inl ⟨by rfl, ?_⟩) ?_ ?_
            rotate_left
            · intro w'
              go_simp
              with_reducible rfl
            rotate_left
            · simp only [Act.put, List.setIfInBounds_toArray, List.set_cons_zero, List.set_cons_succ, i64_w, i32_w]
              rfl
            refine pure_ (i := 13) (N := some 46) (v := undef) (a' := ?_) #[true, true, true, true, true, true, true, true, true, true, true, true, true, true, false, false, false, false, false, false, false, false, false, false, false, false] rfl rfl (any_of HT_.out (by kernel_rfl)) (fun _ _ _ h => h) (Or.inr ⟨by rfl, rfl⟩) ?_ ?_
            rotate_left
            · simp only [Act.put, List.setIfInBounds_toArray, List.set_cons_zero, List.set_cons_succ, i64_w, i32_w]
              rfl
            refine pure_ (i := 14) (N := some 47) (v := undef) (a' := ?_) #[true, true, true, true, true, true, true, true, true, true, true, true, true, true, true, false, false, false, false, false, false, false, false, false, false, false] rfl rfl (any_of HT_.out (by kernel_rfl)) (fun _ _ _ h => h) (Or.inr ⟨by rfl, rfl⟩) ?_ ?_
            rotate_left
            · simp only [Act.put, List.setIfInBounds_toArray, List.set_cons_zero, List.set_cons_succ, i64_w, i32_w]
              rfl
            refine pure_ (i := 15) (N := some 48) (v := undef) (a' := ?_) #[true, true, true, true, true, true, true, true, true, true, true, true, true, true, true, true, false, false, false, false, false, false, false, false, false, false] rfl rfl (any_of HT_.out (by kernel_rfl)) (fun _ _ _ h => h) (Or.inr ⟨by rfl, rfl⟩) ?_ ?_
            rotate_left
            · simp only [Act.put, List.setIfInBounds_toArray, List.set_cons_zero, List.set_cons_succ, i64_w, i32_w]
              rfl
            refine pure_ (i := 16) (N := some 49) (v := undef) (a' := ?_) #[true, true, true, true, true, true, true, true, true, true, true, true, true, true, true, true, true, false, false, false, false, false, false, false, false, false] rfl rfl (any_of HT_.out (by kernel_rfl)) (fun _ _ _ h => h) (Or.inr ⟨by rfl, rfl⟩) ?_ ?_
            rotate_left
            · simp only [Act.put, List.setIfInBounds_toArray, List.set_cons_zero, List.set_cons_succ, i64_w, i32_w]
              rfl
            refine pure_ (i := 17) (N := some 50) (v := undef) (a' := ?_) #[true, true, true, true, true, true, true, true, true, true, true, true, true, true, true, true, true, true, false, false, false, false, false, false, false, false] rfl rfl (any_of HT_.out (by kernel_rfl)) (fun _ _ _ h => h) (Or.inr ⟨by rfl, rfl⟩) ?_ ?_
            rotate_left
            · simp only [Act.put, List.setIfInBounds_toArray, List.set_cons_zero, List.set_cons_succ, i64_w, i32_w]
              rfl
            refine pure_ (i := 18) (N := some 51) (v := undef) (a' := ?_) #[true, true, true, true, true, true, true, true, true, true, true, true, true, true, true, true, true, true, true, false, false, false, false, false, false, false] rfl rfl (any_of HT_.out (by kernel_rfl)) (fun _ _ _ h => h) (Or.inr ⟨by rfl, rfl⟩) ?_ ?_
            rotate_left
            · simp only [Act.put, List.setIfInBounds_toArray, List.set_cons_zero, List.set_cons_succ, i64_w, i32_w]
              rfl
            refine pure_ (i := 19) (N := some 52) (v := undef) (a' := ?_) #[true, true, true, true, true, true, true, true, true, true, true, true, true, true, true, true, true, true, true, true, false, false, false, false, false, false] rfl rfl (any_of HT_.out (by kernel_rfl)) (fun _ _ _ h => h) (Or.inr ⟨by rfl, rfl⟩) ?_ ?_
            rotate_left
            · simp only [Act.put, List.setIfInBounds_toArray, List.set_cons_zero, List.set_cons_succ, i64_w, i32_w]
              rfl
            refine pure_ (i := 20) (N := some 53) (v := undef) (a' := ?_) #[true, true, true, true, true, true, true, true, true, true, true, true, true, true, true, true, true, true, true, true, true, false, false, false, false, false] rfl rfl (any_of HT_.out (by kernel_rfl)) (fun _ _ _ h => h) (Or.inr ⟨by rfl, rfl⟩) ?_ ?_
            rotate_left
            · simp only [Act.put, List.setIfInBounds_toArray, List.set_cons_zero, List.set_cons_succ, i64_w, i32_w]
              rfl
            refine pure_ (i := 21) (N := some 54) (v := undef) (a' := ?_) #[true, true, true, true, true, true, true, true, true, true, true, true, true, true, true, true, true, true, true, true, true, true, false, false, false, false] rfl rfl (any_of HT_.out (by kernel_rfl)) (fun _ _ _ h => h) (Or.inr ⟨by rfl, rfl⟩) ?_ ?_
            rotate_left
            · simp only [Act.put, List.setIfInBounds_toArray, List.set_cons_zero, List.set_cons_succ, i64_w, i32_w]
              rfl
            refine pure_ (i := 22) (N := some 55) (v := undef) (a' := ?_) #[true, true, true, true, true, true, true, true, true, true, true, true, true, true, true, true, true, true, true, true, true, true, true, false, false, false] rfl rfl (any_of HT_.out (by kernel_rfl)) (fun _ _ _ h => h) (Or.inr ⟨by rfl, rfl⟩) ?_ ?_
            rotate_left
            · simp only [Act.put, List.setIfInBounds_toArray, List.set_cons_zero, List.set_cons_succ, i64_w, i32_w]
              rfl
            refine pure_ (i := 23) (N := some 56) (v := undef) (a' := ?_) #[true, true, true, true, true, true, true, true, true, true, true, true, true, true, true, true, true, true, true, true, true, true, true, true, false, false] rfl rfl (any_of HT_.out (by kernel_rfl)) (fun _ _ _ h => h) (Or.inr ⟨by rfl, rfl⟩) ?_ ?_
            rotate_left
            · simp only [Act.put, List.setIfInBounds_toArray, List.set_cons_zero, List.set_cons_succ, i64_w, i32_w]
              rfl
            refine pure_ (i := 24) (N := some 57) (v := undef) (a' := ?_) #[true, true, true, true, true, true, true, true, true, true, true, true, true, true, true, true, true, true, true, true, true, true, true, true, true, false] rfl rfl (any_of HT_.out (by kernel_rfl)) (fun _ _ _ h => h) (Or.inr ⟨by rfl, rfl⟩) ?_ ?_
            rotate_left
            · simp only [Act.put, List.setIfInBounds_toArray, List.set_cons_zero, List.set_cons_succ, i64_w, i32_w]
              rfl
            refine pure_ (i := 25) (N := some 58) (v := ?_) (a' := ?_) #[true, true, true, true, true, true, true, true, true, true, true, true, true, true, true, true, true, true, true, true, true, true, true, true, true, true] rfl rfl (any_of HT_.out (by kernel_rfl)) (fun _ _ _ h => h) (Or.inl ⟨by rfl, ?_⟩) ?_ ?_
            rotate_left
            · intro w'
              go_simp
              with_reducible rfl
            rotate_left
            · simp only [Act.put, List.setIfInBounds_toArray, List.set_cons_zero, List.set_cons_succ, i64_w, i32_w]
              rfl
            refine done_ (done_of HT_.out (by kernel_rfl)) ?_
            have HHe := Aside0.mk hHeld
            clear hHeld HT_ HFr6 HO6 HS6 HR6 HA6
            --@G6
            go_wp2
            --@G7
            go_roundg (f.ss.length - (k2 + 1))
            case measure => have := HM6.out; omega
            case rel => exact ⟨k2 + 1, by go_num, hltB, ⟨Nat.le_refl _⟩, ⟨HFrA.out⟩, ⟨HOA.out⟩, ⟨HSA.out⟩, ⟨by rw [take_snoc HSs.out, rangesAt_snoc]; rw [if_neg (by unfold plS; intro e; have := congrArg SPl.f0 e; exact HE0.out this), List.append_nil]; exact HRA.out⟩, ⟨HAA.out⟩⟩
        · obtain rfl : k2 = f.ss.length := by omega
          have hltzB : ¬ (f.ss.length : Int) < (f.ss.length : Int) := by omega
          have hR := HR6.out
          rw [List.take_length] at hR
          obtain ⟨Al, cl, hv⟩ := Kd.R_slice hR
          subst hv
          have hrr := Kd.R_reads' hR
          have hrl := rangesAt_len f.ss ⟨y.f0, y.f1⟩
          have hul : (unionR (rangesAt f.ss ⟨y.f0, y.f1⟩)).length ≤ 65536 := by have h1 := unionR_len (rangesAt f.ss ⟨y.f0, y.f1⟩); omega
          have HU := Aside0.mk (PA.vellumref02_Union.calls 0 Al cl (rangesAt f.ss ⟨y.f0, y.f1⟩) (unionR (rangesAt f.ss ⟨y.f0, y.f1⟩)) w6 hrr.2.2 hrr.2.1 (by unfold PA.vellumref02_Union.f PA.code_Union.f; rw [if_pos (by omega)]))
          generalize (rangesAt f.ss ⟨y.f0, y.f1⟩).length = nl at *
          clear hR hrr hx0
          --@J
          go_wp2_with fail
          refine HU.out.mono ?_
          rintro e w7 ⟨vu, rfl, hu, hb⟩
          obtain ⟨Au, cu, hvu⟩ := Kd.R_slice hu
          subst hvu
          have HFr7 := Aside0.mk (HFr6.out.below hb)
          have HO7 := Aside0.mk ((hb.block _ (lt_of HO6.out)).trans HO6.out)
          have HS7 := Aside0.mk (Kd.R_below HS6.out hb)
          have HU7 := Aside0.mk (Kd.R_lower hu HFr6.out.size)
          clear hu hb HU hrl m1
          --@K
          go_wp2
          --@L
          go_loopg [9] (unionR (rangesAt f.ss ⟨y.f0, y.f1⟩)).length (fun gg s9 wb => ∃ (k3 : Nat) (vs3 : Value), s9 = .int .i64 k3 ∧ k3 ≤ (unionR (rangesAt f.ss ⟨y.f0, y.f1⟩)).length ∧ Aside0 ((unionR (rangesAt f.ss ⟨y.f0, y.f1⟩)).length - k3 ≤ gg) ∧ Aside0 (Fr w3 w2.heap.size wb) ∧ Aside0 (wb.heap[w2.heap.size]? = some (.cells #[.slice none 0 0, vs3, .slice Aw rws.length cw] 25 (0, 0))) ∧ Aside0 (Kd.R k46 46 wb w3.heap.size (fun _ => True) vs3 (sp ++ ((unionR (rangesAt f.ss ⟨y.f0, y.f1⟩)).take k3).map (fun x => ⟨y.f0, y.f1, x⟩))) ∧ Aside0 (Kd.R k44 44 wb w3.heap.size (fun _ => True) (.slice Au (unionR (rangesAt f.ss ⟨y.f0, y.f1⟩)).length cu) (unionR (rangesAt f.ss ⟨y.f0, y.f1⟩))))
          case atStart => exact ⟨0, vs, rfl, Nat.zero_le _, ⟨Nat.le_refl _⟩, ⟨HFr7.out⟩, ⟨HO7.out⟩, ⟨by rw [List.take_zero, List.map_nil, List.append_nil]; exact HS7.out⟩, ⟨HU7.out⟩⟩
          case round =>
            clear HFr7 HO7 HS7 HU7
            obtain ⟨w8, hwq⟩ : ∃ x, x = wr := ⟨_, rfl⟩
            subst hwq
            obtain ⟨k3, vs3, rfl, hk3, HM8, HFr8, HO8, HS8, HU8⟩ := hrel
            by_cases hltC : k3 < (unionR (rangesAt f.ss ⟨y.f0, y.f1⟩)).length
            · have hltzC : (k3 : Int) < ((unionR (rangesAt f.ss ⟨y.f0, y.f1⟩)).length : Int) := by omega
              obtain ⟨adu, ea, b0, b1, b2⟩ := at_T44 (Kd.R_reads' HU8.out).2.2 (k3 : Int) (by omega) hltzC
              subst ea
              obtain ⟨x, hx⟩ := ex_get hltC
              rw [rd44 hx] at b0 b1 b2
              simp only [Int.toNat_natCast] at b0 b1 b2
              have HXx := Aside0.mk hx
              have hcel : ∀ W, Fr w3 w2.heap.size W → W.heap[w2.heap.size]? = some (.cells #[.slice none 0 0, vs3, .slice Aw rws.length cw] 25 (0, 0)) → Kd.R k44 44 W w3.heap.size (fun _ => True) (.slice (some adu) (unionR (rangesAt f.ss ⟨y.f0, y.f1⟩)).length cu) (unionR (rangesAt f.ss ⟨y.f0, y.f1⟩)) → (W.cell? ⟨w2.heap.size, 1, none⟩ = some vs3 ∧ W.cell? (ad.add (k * 3)) = some (.int .i64 y.f0) ∧ W.cell? ⟨(ad.add (k * 3)).block, (ad.add (k * 3)).off + 1, none⟩ = some (.int .i64 y.f1) ∧ W.cell? (adu.add (k3 * 3)) = some (.string x.f0) ∧ W.cell? ⟨(adu.add (k3 * 3)).block, (adu.add (k3 * 3)).off + 1, none⟩ = some (.string x.f1) ∧ W.cell? ⟨(adu.add (k3 * 3)).block, (adu.add (k3 * 3)).off + 2, none⟩ = some (.bool x.f2)) := fun W h1 h2 h3 => by
                obtain ⟨adv, ev, d0, d1, d2⟩ := at_T44 (Kd.R_reads' h3).2.2 (k3 : Int) (by omega) hltzC
                cases ev
                rw [rd44 HXx.out] at d0 d1 d2
                simp only [Int.toNat_natCast] at d0 d1 d2
                exact ⟨cell_of h2 1, h1.cell HX3.out HSl.out HA3.out.1 rfl, h1.cell HX3.out HSl.out HA3.out.2 rfl, d0, d1, d2⟩
              have HCel := Aside0.mk hcel
              have hll : ((sp ++ ((unionR (rangesAt f.ss ⟨y.f0, y.f1⟩)).take k3).map (fun x => (⟨y.f0, y.f1, x⟩ : S46))).length + 1) * 56 ≤ 140737488355328 := by
                have h1 := spanF_len f.ss (by omega) (pl.take k) (by rw [List.length_take]; omega)
                rw [← HSp4.out] at h1
                have h2 := List.length_take_le k3 (unionR (rangesAt f.ss ⟨y.f0, y.f1⟩))
                rw [List.length_append, List.length_map]
                omega
              have HLL := Aside0.mk hll
              clear b0 b1 b2 hx hcel hll
              --@M
              go_wp2_with fail
              refine start_ (n := 21) (S := fun w' => w'.cell? ⟨w2.heap.size, 1, none⟩ = some vs3 ∧ w'.cell? (ad.add (k * 3)) = some (.int .i64 y.f0) ∧ w'.cell? ⟨(ad.add (k * 3)).block, (ad.add (k * 3)).off + 1, none⟩ = some (.int .i64 y.f1) ∧ w'.cell? (adu.add (k3 * 3)) = some (.string x.f0) ∧ w'.cell? ⟨(adu.add (k3 * 3)).block, (adu.add (k3 * 3)).off + 1, none⟩ = some (.string x.f1) ∧ w'.cell? ⟨(adu.add (k3 * 3)).block, (adu.add (k3 * 3)).off + 2, none⟩ = some (.bool x.f2)) (ds := [20]) #[false, false, false, false, false, false, false, false, false, false, false, false, false, false, false, false, false, false, false, false, false] (by kernel_rfl) rfl rfl (by have hb := below_drew1 (Below.refl w8.heap.size w8); exact HCel.out _ (HFr8.out.below hb) ((hb.block _ (lt_of HO8.out)).trans HO8.out) (Kd.R_below HU8.out hb)) (fun hHeld => ?_); refine with_tab tab22_16 (fun HT_ => ?_)
              have hBA := below_drew1 (Below.refl w8.heap.size w8)
              generalize w8.drew = wA at hBA hHeld ⊢
              have HFrA := Aside0.mk (HFr8.out.below hBA)
              have HOA := Aside0.mk ((hBA.block _ (lt_of HO8.out)).trans HO8.out)
              have HSA := Aside0.mk (Kd.R_below HS8.out hBA)
              have HUA := Aside0.mk (Kd.R_below HU8.out hBA)
              clear hBA
              refine pure_ (i := 0) (N := some 76) (v := ?_) (a' := ?_) #[true, false, false, false, false, false, false, false, false, false, false, false, false, false, false, false, false, false, false, false, false] rfl rfl (any_of HT_.out (by kernel_rfl)) (fun _ _ _ h => h) (Or.inl ⟨by rfl, ?_⟩) ?_ ?_
              rotate_left
              · intro w'
                go_simp
                with_reducible rfl
              rotate_left
              · simp only [Act.put, List.setIfInBounds_toArray, List.set_cons_zero, List.set_cons_succ, i64_w, i32_w]
                rfl
              refine pure_ (i := 2) (N := some 78) (v := ?_) (a' := ?_) #[true, false, true, false, false, false, false, false, false, false, false, false, false, false, false, false, false, false, false, false, false] rfl rfl (any_of HT_.out (by kernel_rfl)) (fun _ _ _ h => h) (Or.inl ⟨by rfl, ?_⟩) ?_ ?_
              rotate_left
              · intro w'
                go_simp
                with_reducible rfl
              rotate_left
              · simp only [Act.put, List.setIfInBounds_toArray, List.set_cons_zero, List.set_cons_succ, i64_w, i32_w]
                rfl
              refine pure_ (i := 3) (N := some 79) (v := ?_) (a' := ?_) #[true, false, true, true, false, false, false, false, false, false, false, false, false, false, false, false, false, false, false, false, false] rfl rfl (any_of HT_.out (by kernel_rfl)) (fun _ _ _ h => h) (Or.inl ⟨by rfl, ?_⟩) ?_ ?_
              rotate_left
              · intro w'
                go_simp
                with_reducible rfl
              rotate_left
              · simp only [Act.put, List.setIfInBounds_toArray, List.set_cons_zero, List.set_cons_succ, i64_w, i32_w]
                rfl
              refine pure_ (i := 4) (N := some 80) (v := ?_) (a' := ?_) #[true, false, true, true, true, false, false, false, false, false, false, false, false, false, false, false, false, false, false, false, false] rfl rfl (any_of HT_.out (by kernel_rfl)) (fun _ _ _ h => h) (Or.inl ⟨by rfl, ?_⟩) ?_ ?_
              rotate_left
              · intro w'
                go_simp
                with_reducible rfl
              rotate_left
              · simp only [Act.put, List.setIfInBounds_toArray, List.set_cons_zero, List.set_cons_succ, i64_w, i32_w]
                rfl
              refine pure_ (i := 5) (N := some 81) (v := ?_) (a' := ?_) #[true, false, true, true, true, true, false, false, false, false, false, false, false, false, false, false, false, false, false, false, false] rfl rfl (any_of HT_.out (by kernel_rfl)) (fun _ _ _ h => h) (Or.inl ⟨by rfl, ?_⟩) ?_ ?_
              rotate_left
              · intro w'
                go_simp
                with_reducible rfl
              rotate_left
              · simp only [Act.put, List.setIfInBounds_toArray, List.set_cons_zero, List.set_cons_succ, i64_w, i32_w]
                rfl
              refine pure_ (i := 7) (N := some 83) (v := ?_) (a' := ?_) #[true, false, true, true, true, true, false, true, false, false, false, false, false, false, false, false, false, false, false, false, false] rfl rfl (any_of HT_.out (by kernel_rfl)) (fun _ _ _ h => h) (Or.inl ⟨by rfl, ?_⟩) ?_ ?_
              rotate_left
              · intro w'
                go_simp
                with_reducible rfl
              rotate_left
              · simp only [Act.put, List.setIfInBounds_toArray, List.set_cons_zero, List.set_cons_succ, i64_w, i32_w]
                rfl
              refine pure_ (i := 8) (N := some 84) (v := ?_) (a' := ?_) #[true, false, true, true, true, true, false, true, true, false, false, false, false, false, false, false, false, false, false, false, false] rfl rfl (any_of HT_.out (by kernel_rfl)) (fun _ _ _ h => h) (Or.inl ⟨by rfl, ?_⟩) ?_ ?_
              rotate_left
              · intro w'
                go_simp
                with_reducible rfl
              rotate_left
              · simp only [Act.put, List.setIfInBounds_toArray, List.set_cons_zero, List.set_cons_succ, i64_w, i32_w]
                rfl
              refine pure_ (i := 9) (N := some 85) (v := ?_) (a' := ?_) #[true, false, true, true, true, true, false, true, true, true, false, false, false, false, false, false, false, false, false, false, false] rfl rfl (any_of HT_.out (by kernel_rfl)) (fun _ _ _ h => h) (Or.inl ⟨by rfl, ?_⟩) ?_ ?_
              rotate_left
              · intro w'
                go_simp
                with_reducible rfl
              rotate_left
              · simp only [Act.put, List.setIfInBounds_toArray, List.set_cons_zero, List.set_cons_succ, i64_w, i32_w]
                rfl
              refine pure_ (i := 10) (N := some 86) (v := ?_) (a' := ?_) #[true, false, true, true, true, true, false, true, true, true, true, false, false, false, false, false, false, false, false, false, false] rfl rfl (any_of HT_.out (by kernel_rfl)) (fun _ _ _ h => h) (Or.inl ⟨by rfl, ?_⟩) ?_ ?_
              rotate_left
              · intro w'
                go_simp
                with_reducible rfl
              rotate_left
              · simp only [Act.put, List.setIfInBounds_toArray, List.set_cons_zero, List.set_cons_succ, i64_w, i32_w]
                rfl
              refine pure_ (i := 12) (N := some 88) (v := ?_) (a' := ?_) #[true, false, true, true, true, true, false, true, true, true, true, false, true, false, false, false, false, false, false, false, false] rfl rfl (any_of HT_.out (by kernel_rfl)) (fun _ _ _ h => h) (Or.inl ⟨by rfl, ?_⟩) ?_ ?_
              rotate_left
              · intro w'
                go_simp
                with_reducible rfl
              rotate_left
              · simp only [Act.put, List.setIfInBounds_toArray, List.set_cons_zero, List.set_cons_succ, i64_w, i32_w]
                rfl
              refine pure_ (i := 13) (N := some 89) (v := ?_) (a' := ?_) #[true, false, true, true, true, true, false, true, true, true, true, false, true, true, false, false, false, false, false, false, false] rfl rfl (any_of HT_.out (by kernel_rfl)) (fun _ _ _ h => h) (Or.inl ⟨by rfl, ?_⟩) ?_ ?_
              rotate_left
              · intro w'
                go_simp
                with_reducible rfl
              rotate_left
              · simp only [Act.put, List.setIfInBounds_toArray, List.set_cons_zero, List.set_cons_succ, i64_w, i32_w]
                rfl
              refine pure_ (i := 14) (N := some 90) (v := ?_) (a' := ?_) #[true, false, true, true, true, true, false, true, true, true, true, false, true, true, true, false, false, false, false, false, false] rfl rfl (any_of HT_.out (by kernel_rfl)) (fun _ _ _ h => h) (Or.inl ⟨by rfl, ?_⟩) ?_ ?_
              rotate_left
              · intro w'
                go_simp
                with_reducible rfl
              rotate_left
              · simp only [Act.put, List.setIfInBounds_toArray, List.set_cons_zero, List.set_cons_succ, i64_w, i32_w]
                rfl
              refine take_ (i := 1) (N := some 77) (v := ?_) (a' := ?_) #[true, true, true, true, true, true, false, true, true, true, true, false, true, true, true, false, false, false, false, false, false] rfl rfl (take_of HT_.out (by kernel_rfl)) (fun _ _ _ h => h) (Or.inl ⟨by rfl, ?_⟩) hHeld ?_ ?_
              rotate_left
              · rintro w' ⟨s0, s1, s2, s3, s4, s5⟩
                go_simp
                with_reducible rfl
              rotate_left
              · simp only [Act.put, List.setIfInBounds_toArray, List.set_cons_zero, List.set_cons_succ, i64_w, i32_w]
                rfl
              refine take_ (i := 6) (N := some 82) (v := ?_) (a' := ?_) #[true, true, true, true, true, true, true, true, true, true, true, false, true, true, true, false, false, false, false, false, false] rfl rfl (take_of HT_.out (by kernel_rfl)) (fun _ _ _ h => h) (Or.inl ⟨by rfl, ?_⟩) hHeld ?_ ?_
              rotate_left
              · rintro w' ⟨s0, s1, s2, s3, s4, s5⟩
                go_simp
                with_reducible rfl
              rotate_left
              · simp only [Act.put, List.setIfInBounds_toArray, List.set_cons_zero, List.set_cons_succ, i64_w, i32_w]
                rfl
              refine take_ (i := 11) (N := some 87) (v := ?_) (a' := ?_) #[true, true, true, true, true, true, true, true, true, true, true, true, true, true, true, false, false, false, false, false, false] rfl rfl (take_of HT_.out (by kernel_rfl)) (fun _ _ _ h => h) (Or.inl ⟨by rfl, ?_⟩) hHeld ?_ ?_
              rotate_left
              · rintro w' ⟨s0, s1, s2, s3, s4, s5⟩
                go_simp
                with_reducible rfl
              rotate_left
              · simp only [Act.put, List.setIfInBounds_toArray, List.set_cons_zero, List.set_cons_succ, i64_w, i32_w]
                rfl
              refine take_ (i := 15) (N := some 91) (v := ?_) (a' := ?_) #[true, true, true, true, true, true, true, true, true, true, true, true, true, true, true, true, false, false, false, false, false] rfl rfl (take_of HT_.out (by kernel_rfl)) (fun _ _ _ h => h) (Or.inl ⟨by rfl, ?_⟩) hHeld ?_ ?_
              rotate_left
              · rintro w' ⟨s0, s1, s2, s3, s4, s5⟩
                go_simp
                with_reducible rfl
              rotate_left
              · simp only [Act.put, List.setIfInBounds_toArray, List.set_cons_zero, List.set_cons_succ, i64_w, i32_w]
                rfl
              refine pure_ (i := 16) (N := some 92) (v := ?_) (a' := ?_) #[true, true, true, true, true, true, true, true, true, true, true, true, true, true, true, true, true, false, false, false, false] rfl rfl (any_of HT_.out (by kernel_rfl)) (fun _ _ _ h => h) (Or.inl ⟨by rfl, ?_⟩) ?_ ?_
              rotate_left
              · intro w'
                go_simp
                with_reducible rfl
              rotate_left
              · simp only [Act.put, List.setIfInBounds_toArray, List.set_cons_zero, List.set_cons_succ, i64_w, i32_w]
                rfl
              have hBB := below_alloc (Below.refl wA.heap.size wA) (.cells #[.int .i64 y.f0, .int .i64 y.f1, .string x.f0, .string x.f1, .bool x.f2] 46)
              have HFrB := Aside0.mk (HFrA.out.below hBB)
              have HOB := Aside0.mk ((hBB.block _ (lt_of HOA.out)).trans HOA.out)
              have HSB := Aside0.mk (Kd.R_below HSA.out hBB)
              have HUB := Aside0.mk (Kd.R_below HUA.out hBB)
              clear hBB
              refine one_ (i := 17) (N := some 93) #[true, true, true, true, true, true, true, true, true, true, true, true, true, true, true, true, true, true, false, false, false] rfl rfl (one_of HT_.out (by kernel_rfl)) (by decide) (fun K hK => ?_)
              refine value_ (w1 := ?_) (v := ?_) (by rfl) rfl ?_ ?_
              rotate_left 2
              · go_simp
                constructor
                · rfl
                · rfl
              refine hK.out _ _ (HCel.out _ HFrB.out HOB.out HUB.out) (fun hHeld => ?_)
              clear hK K
              refine norm_ (a' := ?_) ?_ ?_
              rotate_left
              · show Act.put _ (some 93) _ = _
                simp only [Act.put, List.setIfInBounds_toArray, List.set_cons_zero, List.set_cons_succ, i64_w, i32_w]
                rfl
              have hbsz : w3.heap.size ≤ wA.heap.size := HFrA.out.size
              refine one_ (i := 18) (N := some 94) #[true, true, true, true, true, true, true, true, true, true, true, true, true, true, true, true, true, true, true, false, false] rfl rfl (one_of HT_.out (by kernel_rfl)) (by decide) (fun K hK => ?_)
              refine Kd.R_append_step k46 (w0 := wA) w3.heap.size (by rfl) (.tmp 77) (.tmp 93) 23 46 (.agg #[(.int .i64 0), (.int .i64 0), (.string ⟨#[]⟩), (.string ⟨#[]⟩), (.bool false)]) 56 rfl Tryz.underlying23 info46 rfl (by decide) (by omega) vs3 (sp ++ ((unionR (rangesAt f.ss ⟨y.f0, y.f1⟩)).take k3).map (fun x => (⟨y.f0, y.f1, x⟩ : S46))) ⟨y.f0, y.f1, x⟩ [.int .i64 y.f0, .int .i64 y.f1, .string x.f0, .string x.f1, .bool x.f2] (fun _ => True) (fun _ => False) rfl rfl (k46_mkM _ _ _ ⟨y.f0, y.f1, x⟩) (fun _ hk => hk.elim) (fun _ _ => trivial) HSA.out (Below.refl _ _) hbsz HLL.out ?_
              intro v9 w9 ho hb hg hat
              obtain ⟨Av, nv, cv, rfl⟩ : ∃ A n c, v9 = Value.slice A n c := (by obtain ⟨A, c, h⟩ := Kd.R_slice ho; exact ⟨A, _, c, h⟩)
              have HFr9 := Aside0.mk (HFrA.out.grown hg (fun k e => Kd.R_base HSA.out k e))
              have HO9 := Aside0.mk (blk_by HSA.out HOA.out (by decide) hg)
              have HS9 := Aside0.mk ho
              have HU9 := Aside0.mk (R44_by46 HUA.out HSA.out hg)
              clear ho hb hg hat
              refine hK.out _ _ (HCel.out _ HFr9.out HO9.out HU9.out) (fun hHeld => ?_)
              clear hK K
              refine norm_ (a' := ?_) ?_ ?_
              rotate_left
              · show Act.put _ (some 94) _ = _
                simp only [Act.put, List.setIfInBounds_toArray, List.set_cons_zero, List.set_cons_succ, i64_w, i32_w]
                rfl
              refine pure_ (i := 19) (N := some 95) (v := ?_) (a' := ?_) #[true, true, true, true, true, true, true, true, true, true, true, true, true, true, true, true, true, true, true, true, false] rfl rfl (any_of HT_.out (by kernel_rfl)) (fun _ _ _ h => h) (Or.inl ⟨by rfl, ?_⟩) ?_ ?_
              rotate_left
              · intro w'
                go_simp
                with_reducible rfl
              rotate_left
              · simp only [Act.put, List.setIfInBounds_toArray, List.set_cons_zero, List.set_cons_succ, i64_w, i32_w]
                rfl
              have o1 : w9.cell? ⟨w2.heap.size, 1, none⟩ = some vs3 := cell_of HO9.out 1
              have of1 : w9.frozen? ⟨w2.heap.size, 1, none⟩ = false := frozen_of HO9.out 1
              refine last_ (i := 20) (N := none) #[true, true, true, true, true, true, true, true, true, true, true, true, true, true, true, true, true, true, true, true, true] rfl rfl (one_of HT_.out (by kernel_rfl)) (by decide) (fun K hK => ?_)
              refine skip_ (w1 := ?_) (by rfl) rfl ?_ ?_
              rotate_left
              · go_simp
                rfl
              refine hK.out _ _ ?_
              refine done_ (done_of HT_.out (by kernel_rfl)) ?_
              have HFr10 := Aside0.mk (HFr9.out.set 1 (.slice Av nv cv))
              have hO10 := setCell_heap (i := 1) HO9.out (.slice Av nv cv)
              have HO10 : Aside0 ((w9.setCell ⟨w2.heap.size, 1, none⟩ (.slice Av nv cv)).heap[w2.heap.size]? = some (.cells #[.slice none 0 0, .slice Av nv cv, .slice Aw rws.length cw] 25 (0, 0))) := Aside0.mk (by simpa using hO10)
              have HS10 := Aside0.mk (R46_set (g := w2.heap.size) (i := 1) (u := .slice Av nv cv) HS9.out HO9.out)
              have HU10 := Aside0.mk (R44_set (g := w2.heap.size) (i := 1) (u := .slice Av nv cv) HU9.out HO9.out)
              clear hO10 o1 of1 hHeld HT_ HFr8 HO8 HS8 HU8 HFrA HOA HSA HUA HFrB HOB HSB HUB HFr9 HO9 HS9 HU9 hbsz
              --@N
              go_wp2
              go_roundg ((unionR (rangesAt f.ss ⟨y.f0, y.f1⟩)).length - (k3 + 1))
              case measure => have := HM8.out; omega
              case rel => exact ⟨k3 + 1, _, by go_num, hltC, ⟨Nat.le_refl _⟩, ⟨HFr10.out⟩, ⟨HO10.out⟩, ⟨by rw [take_snoc HXx.out, List.map_append, ← List.append_assoc]; exact HS10.out⟩, ⟨HU10.out⟩⟩
            · obtain rfl : k3 = (unionR (rangesAt f.ss ⟨y.f0, y.f1⟩)).length := by omega
              have hltzC : ¬ ((unionR (rangesAt f.ss ⟨y.f0, y.f1⟩)).length : Int) < ((unionR (rangesAt f.ss ⟨y.f0, y.f1⟩)).length : Int) := by omega
              have hS := HS8.out
              rw [List.take_length] at hS
              have HS9 := Aside0.mk hS
              clear hS
              --@O
              go_wp2
              go_roundg (pl.length - (k + 1))
              case measure => have := HM4.out; omega
              case rel => exact ⟨k + 1, _, _, by go_num, hltA, ⟨Nat.le_refl _⟩, ⟨HFr8.out⟩, ⟨HO8.out⟩, ⟨HS9.out⟩, ⟨by rw [HSp4.out, take_snoc HYy.out, List.flatMap_append, List.flatMap_cons, List.flatMap_nil, List.append_nil]; rfl⟩⟩
    · obtain rfl : k = pl.length := by omega
      have hltzA : ¬ (pl.length : Int) < (pl.length : Int) := by omega
      have hsp := HSp4.out
      rw [List.take_length] at hsp
      have HSp5 := Aside0.mk hsp
      have hx0 := (HFr4.out.low.block w.heap.size hlt1).trans HY0.out
      have hB4 : Below w.heap.size w w4 := Below.trans HB2.out ((Below.trans HBo3.out HFr4.out.low).mono HB2.out.size)
      have m0 : w4.cell? ⟨w.heap.size, 0, none⟩ = some (.slice A0 f.ps.length c0) := cell_of hx0 0
      have HSo := Aside0.mk (sorted_any _ f.ps A0 c0 w4 rfl (Kd.C_below HF.out.h0 hB4) HF.out.l0 (by omega))
      have HB4 := Aside0.mk hB4
      obtain ⟨Avs, cvs, hvs⟩ := Kd.R_slice HR4.out
      subst hvs
      clear hsp hB4 hx0
      --@P
      go_wp2_with fail
      refine HSo.out.mono ?_
      rintro e w5 ⟨Aq, cq, pts, rfl, h1, h2, h3, h4⟩
      have hO5 := (h4.block _ (lt_of HO4.out)).trans HO4.out
      have HO5 := Aside0.mk hO5
      have HO5q := Aside0.mk hO5
      have HFr0 := Aside0.mk (Fr.refl (lt_of hO5) : Fr w5 w2.heap.size w5)
      have HSq := Aside0.mk h2
      have HCq := Aside0.mk h3
      have HLq := Aside0.mk h1
      have HFr5 := Aside0.mk (HFr4.out.below h4)
      have HR5 := Aside0.mk (Kd.R_reads' (Kd.R_below HR4.out h4))
      have HB5 := Aside0.mk (below_step HB4.out h4)
      generalize hnsp : sp.length = nsp at *
      have HNsp := Aside0.mk hnsp
      have HSl5 := Aside0.mk (allSl (a := .slice none 0 0) (b := .slice Avs nsp cvs) (c := .slice Aw rws.length cw) rfl rfl rfl)
      have hptl : pts.length ≤ 65536 := by have := h2.2.2; omega
      clear h1 h2 h3 h4 hO5 m0 HSo hnsp
      --@Q
      go_wp2
      --@R
      go_loopg [11] pts.length (fun gg s11 wb => ∃ (k4 : Nat) (vp : Value) (pp : List S37), s11 = .int .i64 k4 ∧ k4 ≤ pts.length ∧ Aside0 (pts.length - k4 ≤ gg) ∧ Aside0 (Fr w5 w2.heap.size wb) ∧ Aside0 (wb.heap[w2.heap.size]? = some (.cells #[vp, .slice Avs nsp cvs, .slice Aw rws.length cw] 25 (0, 0))) ∧ Aside0 (Kd.R k37 37 wb w5.heap.size (fun _ => True) vp pp) ∧ Aside0 (pp = (pts.take k4).filter (fun x => !(sp.any (spanB x)))))
      case atStart => exact ⟨0, _, [], rfl, Nat.zero_le _, ⟨Nat.le_refl _⟩, ⟨HFr0.out⟩, ⟨HO5.out⟩, ⟨Kd.R_nil _ _ _ _ _⟩, ⟨rfl⟩⟩
      case round =>
        clear HFr0 HO5
        obtain ⟨w6, hwq⟩ : ∃ x, x = wr := ⟨_, rfl⟩
        subst hwq
        obtain ⟨k4, vp, pp, rfl, hk4, HM6, HFr6, HO6, HR6, HPp⟩ := hrel
        by_cases hltD : k4 < pts.length
        · have hltzD : (k4 : Int) < (pts.length : Int) := by omega
          obtain ⟨adz, ea, z0, z1, z2⟩ := at_T37 HCq.out (k4 : Int) (by omega) hltzD
          subst ea
          obtain ⟨x, hx⟩ := ex_get hltD
          rw [rd37 hx] at z0 z1 z2
          simp only [Int.toNat_natCast] at z0 z1 z2
          have HXx := Aside0.mk hx
          have hcel : ∀ W, Fr w5 w2.heap.size W → W.heap[w2.heap.size]? = some (.cells #[vp, .slice Avs nsp cvs, .slice Aw rws.length cw] 25 (0, 0)) → (W.cell? ⟨w2.heap.size, 0, none⟩ = some vp ∧ W.cell? ⟨w2.heap.size, 1, none⟩ = some (.slice Avs nsp cvs) ∧ W.cell? (adz.add (k4 * 3)) = some (.int .i64 x.f0) ∧ W.cell? ⟨(adz.add (k4 * 3)).block, (adz.add (k4 * 3)).off + 1, none⟩ = some (.int .i64 x.f1) ∧ W.cell? ⟨(adz.add (k4 * 3)).block, (adz.add (k4 * 3)).off + 2, none⟩ = some (.string x.f2)) := fun W h1 h2 => ⟨cell_of h2 0, cell_of h2 1, h1.cell HO5q.out HSl5.out z0 rfl, h1.cell HO5q.out HSl5.out z1 rfl, h1.cell HO5q.out HSl5.out z2 rfl⟩
          have HCel := Aside0.mk hcel
          have hll : (pp.length + 1) * 32 ≤ 140737488355328 := by
            have h1 := List.length_filter_le (fun x => !(sp.any (spanB x))) (pts.take k4)
            have h2 := List.length_take_le k4 pts
            rw [HPp.out]
            omega
          have HLL := Aside0.mk hll
          obtain ⟨kk, hkk⟩ := (spanned_ev sp x (by rw [HSp5.out]; have := spanF_len f.ss (by omega) pl hpl; omega)).ex
          have HKk := Aside0.mk hkk
          have HC6 := Aside0.mk (HFr6.out.C46 HO5q.out HSl5.out HR5.out.2.2)
          generalize hcov : sp.any (spanB x) = cov at hkk HKk
          have HCov := Aside0.mk hcov
          clear z0 z1 z2 hx hcel hll hkk hcov
          --@S
          go_wp2_with fail
          refine start_ (n := 8) (S := fun w' => w'.cell? ⟨w2.heap.size, 1, none⟩ = some (.slice Avs nsp cvs) ∧ w'.cell? (adz.add (k4 * 3)) = some (.int .i64 x.f0) ∧ w'.cell? ⟨(adz.add (k4 * 3)).block, (adz.add (k4 * 3)).off + 1, none⟩ = some (.int .i64 x.f1) ∧ w'.cell? ⟨(adz.add (k4 * 3)).block, (adz.add (k4 * 3)).off + 2, none⟩ = some (.string x.f2)) (ds := []) #[false, false, false, false, false, false, false, false] (by kernel_rfl) rfl rfl (by have hb := below_drew1 (Below.refl w6.heap.size w6); exact (HCel.out _ (HFr6.out.below hb) ((hb.block _ (lt_of HO6.out)).trans HO6.out)).2) (fun hHeld => ?_); refine with_tab tab22_21 (fun HT_ => ?_)
          have hBA := below_drew1 (Below.refl w6.heap.size w6)
          generalize w6.drew = wA at hBA hHeld ⊢
          have HFrA := Aside0.mk (HFr6.out.below hBA)
          have HOA := Aside0.mk ((hBA.block _ (lt_of HO6.out)).trans HO6.out)
          have HRA := Aside0.mk (Kd.R_below HR6.out hBA)
          have HCA := Aside0.mk (Kd.C_below HC6.out hBA)
          clear hBA
          --@S1
          refine pure_ (i := 0) (N := some 105) (v := ?_) (a' := ?_) #[true, false, false, false, false, false, false, false] rfl rfl (any_of HT_.out (by kernel_rfl)) (fun _ _ _ h => h) (Or.inl ⟨by rfl, ?_⟩) ?_ ?_
          rotate_left
          · intro w'
            go_simp
            with_reducible rfl
          rotate_left
          · simp only [Act.put, List.setIfInBounds_toArray, List.set_cons_zero, List.set_cons_succ, i64_w, i32_w]
            rfl
          refine pure_ (i := 2) (N := some 107) (v := ?_) (a' := ?_) #[true, false, true, false, false, false, false, false] rfl rfl (any_of HT_.out (by kernel_rfl)) (fun _ _ _ h => h) (Or.inl ⟨by rfl, ?_⟩) ?_ ?_
          rotate_left
          · intro w'
            go_simp
            with_reducible rfl
          rotate_left
          · simp only [Act.put, List.setIfInBounds_toArray, List.set_cons_zero, List.set_cons_succ, i64_w, i32_w]
            rfl
          refine pure_ (i := 3) (N := some 108) (v := ?_) (a' := ?_) #[true, false, true, true, false, false, false, false] rfl rfl (any_of HT_.out (by kernel_rfl)) (fun _ _ _ h => h) (Or.inl ⟨by rfl, ?_⟩) ?_ ?_
          rotate_left
          · intro w'
            go_simp
            with_reducible rfl
          rotate_left
          · simp only [Act.put, List.setIfInBounds_toArray, List.set_cons_zero, List.set_cons_succ, i64_w, i32_w]
            rfl
          refine pure_ (i := 4) (N := some 109) (v := ?_) (a' := ?_) #[true, false, true, true, true, false, false, false] rfl rfl (any_of HT_.out (by kernel_rfl)) (fun _ _ _ h => h) (Or.inl ⟨by rfl, ?_⟩) ?_ ?_
          rotate_left
          · intro w'
            go_simp
            with_reducible rfl
          rotate_left
          · simp only [Act.put, List.setIfInBounds_toArray, List.set_cons_zero, List.set_cons_succ, i64_w, i32_w]
            rfl
          refine take_ (i := 1) (N := some 106) (v := ?_) (a' := ?_) #[true, true, true, true, true, false, false, false] rfl rfl (take_of HT_.out (by kernel_rfl)) (fun _ _ _ h => h) (Or.inl ⟨by rfl, ?_⟩) hHeld ?_ ?_
          rotate_left
          · rintro w' ⟨s0, s1, s2, s3⟩
            go_simp
            with_reducible rfl
          rotate_left
          · simp only [Act.put, List.setIfInBounds_toArray, List.set_cons_zero, List.set_cons_succ, i64_w, i32_w]
            rfl
          refine take_ (i := 5) (N := some 110) (v := ?_) (a' := ?_) #[true, true, true, true, true, true, false, false] rfl rfl (take_of HT_.out (by kernel_rfl)) (fun _ _ _ h => h) (Or.inl ⟨by rfl, ?_⟩) hHeld ?_ ?_
          rotate_left
          · rintro w' ⟨s0, s1, s2, s3⟩
            go_simp
            with_reducible rfl
          rotate_left
          · simp only [Act.put, List.setIfInBounds_toArray, List.set_cons_zero, List.set_cons_succ, i64_w, i32_w]
            rfl
          --@S2
          refine one_ (i := 6) (N := some 111) #[true, true, true, true, true, true, true, false] rfl rfl (one_of HT_.out (by kernel_rfl)) (by decide) (fun K hK => ?_)
          refine goes_ Tryz.func58 (by kernel_rfl) rfl #[.slice Avs nsp cvs, .agg #[.int .i64 x.f0, .int .i64 x.f1, .string x.f2]] (by rfl) rfl rfl (by (try simp only [List.map_toArray, List.map_cons, List.map_nil]); first | done | rfl) ?_
          refine ((show Calls Tryz.prog 58 #[.slice Avs nsp cvs, .agg #[.int .i64 x.f0, .int .i64 x.f1, .string x.f2]] wA (fun e w' => e = .returned (.bool cov) ∧ Below wA.heap.size wA w') from (by have h1 := HCA.out; have h2 := HR5.out.2.1; rw [← HNsp.out] at h1 h2 ⊢; exact vellumref17_spanned.calls kk Avs cvs sp _ _ _ cov wA h1 h2 HKk.out))).mono ?_
          rintro e wB ⟨rfl, hb⟩
          refine ⟨_, rfl, ?_⟩
          have HFrB := Aside0.mk (HFrA.out.below hb)
          have HOB := Aside0.mk ((hb.block _ (lt_of HOA.out)).trans HOA.out)
          have HRB := Aside0.mk (Kd.R_below HRA.out hb)
          clear hb
          refine hK.out _ _ (HCel.out _ HFrB.out HOB.out).2 (fun hHeld => ?_)
          clear hK K
          refine norm_ (a' := ?_) ?_ ?_
          rotate_left
          · show Act.put _ (some 111) _ = _
            simp only [Act.put, List.setIfInBounds_toArray, List.set_cons_zero, List.set_cons_succ, i64_w, i32_w]
            rfl
          refine pure_ (i := 7) (N := some 112) (v := ?_) (a' := ?_) #[true, true, true, true, true, true, true, true] rfl rfl (any_of HT_.out (by kernel_rfl)) (fun _ _ _ h => h) (Or.inl ⟨by rfl, ?_⟩) ?_ ?_
          rotate_left
          · intro w'
            go_simp
            with_reducible rfl
          rotate_left
          · simp only [Act.put, List.setIfInBounds_toArray, List.set_cons_zero, List.set_cons_succ, i64_w, i32_w]
            rfl
          refine done_ (done_of HT_.out (by kernel_rfl)) ?_
          clear hHeld HT_ HFr6 HO6 HR6 HFrA HOA HRA HCA HC6
          --@S3
          cases cov with
          | true =>
            --@T
            go_wp2
            go_roundg (pts.length - (k4 + 1))
            case measure => have := HM6.out; omega
            case rel => exact ⟨k4 + 1, _, _, by go_num, hltD, ⟨Nat.le_refl _⟩, ⟨HFrB.out⟩, ⟨HOB.out⟩, ⟨HRB.out⟩, ⟨by rw [HPp.out, take_snoc HXx.out, List.filter_append]; simp [HCov.out]⟩⟩
          | false =>
            --@U
            go_wp2_with fail
            refine start_ (n := 10) (S := fun w' => w'.cell? ⟨w2.heap.size, 0, none⟩ = some vp ∧ w'.cell? (adz.add (k4 * 3)) = some (.int .i64 x.f0) ∧ w'.cell? ⟨(adz.add (k4 * 3)).block, (adz.add (k4 * 3)).off + 1, none⟩ = some (.int .i64 x.f1) ∧ w'.cell? ⟨(adz.add (k4 * 3)).block, (adz.add (k4 * 3)).off + 2, none⟩ = some (.string x.f2)) (ds := [9]) #[false, false, false, false, false, false, false, false, false, false] (by kernel_rfl) rfl rfl (by have hb := below_drew1 (Below.refl wB.heap.size wB); have hc := HCel.out _ (HFrB.out.below hb) ((hb.block _ (lt_of HOB.out)).trans HOB.out); exact ⟨hc.1, hc.2.2⟩) (fun hHeld => ?_); refine with_tab tab22_22 (fun HT_ => ?_)
            have hBA := below_drew1 (Below.refl wB.heap.size wB)
            generalize wB.drew = wC at hBA hHeld ⊢
            have HFrC := Aside0.mk (HFrB.out.below hBA)
            have HOC := Aside0.mk ((hBA.block _ (lt_of HOB.out)).trans HOB.out)
            have HRC := Aside0.mk (Kd.R_below HRB.out hBA)
            clear hBA
            refine pure_ (i := 0) (N := some 113) (v := ?_) (a' := ?_) #[true, false, false, false, false, false, false, false, false, false] rfl rfl (any_of HT_.out (by kernel_rfl)) (fun _ _ _ h => h) (Or.inl ⟨by rfl, ?_⟩) ?_ ?_
            rotate_left
            · intro w'
              go_simp
              with_reducible rfl
            rotate_left
            · simp only [Act.put, List.setIfInBounds_toArray, List.set_cons_zero, List.set_cons_succ, i64_w, i32_w]
              rfl
            refine pure_ (i := 2) (N := some 115) (v := ?_) (a' := ?_) #[true, false, true, false, false, false, false, false, false, false] rfl rfl (any_of HT_.out (by kernel_rfl)) (fun _ _ _ h => h) (Or.inl ⟨by rfl, ?_⟩) ?_ ?_
            rotate_left
            · intro w'
              go_simp
              with_reducible rfl
            rotate_left
            · simp only [Act.put, List.setIfInBounds_toArray, List.set_cons_zero, List.set_cons_succ, i64_w, i32_w]
              rfl
            refine pure_ (i := 3) (N := some 116) (v := ?_) (a' := ?_) #[true, false, true, true, false, false, false, false, false, false] rfl rfl (any_of HT_.out (by kernel_rfl)) (fun _ _ _ h => h) (Or.inl ⟨by rfl, ?_⟩) ?_ ?_
            rotate_left
            · intro w'
              go_simp
              with_reducible rfl
            rotate_left
            · simp only [Act.put, List.setIfInBounds_toArray, List.set_cons_zero, List.set_cons_succ, i64_w, i32_w]
              rfl
            refine pure_ (i := 4) (N := some 117) (v := ?_) (a' := ?_) #[true, false, true, true, true, false, false, false, false, false] rfl rfl (any_of HT_.out (by kernel_rfl)) (fun _ _ _ h => h) (Or.inl ⟨by rfl, ?_⟩) ?_ ?_
            rotate_left
            · intro w'
              go_simp
              with_reducible rfl
            rotate_left
            · simp only [Act.put, List.setIfInBounds_toArray, List.set_cons_zero, List.set_cons_succ, i64_w, i32_w]
              rfl
            refine take_ (i := 1) (N := some 114) (v := ?_) (a' := ?_) #[true, true, true, true, true, false, false, false, false, false] rfl rfl (take_of HT_.out (by kernel_rfl)) (fun _ _ _ h => h) (Or.inl ⟨by rfl, ?_⟩) hHeld ?_ ?_
            rotate_left
            · rintro w' ⟨s0, s1, s2, s3⟩
              go_simp
              with_reducible rfl
            rotate_left
            · simp only [Act.put, List.setIfInBounds_toArray, List.set_cons_zero, List.set_cons_succ, i64_w, i32_w]
              rfl
            refine take_ (i := 5) (N := some 118) (v := ?_) (a' := ?_) #[true, true, true, true, true, true, false, false, false, false] rfl rfl (take_of HT_.out (by kernel_rfl)) (fun _ _ _ h => h) (Or.inl ⟨by rfl, ?_⟩) hHeld ?_ ?_
            rotate_left
            · rintro w' ⟨s0, s1, s2, s3⟩
              go_simp
              with_reducible rfl
            rotate_left
            · simp only [Act.put, List.setIfInBounds_toArray, List.set_cons_zero, List.set_cons_succ, i64_w, i32_w]
              rfl
            refine one_ (i := 6) (N := some 119) #[true, true, true, true, true, true, true, false, false, false] rfl rfl (one_of HT_.out (by kernel_rfl)) (by decide) (fun K hK => ?_)
            refine value_ (w1 := ?_) (v := ?_) (by rfl) rfl ?_ ?_
            rotate_left 2
            · go_simp
              constructor
              · rfl
              · rfl
            refine hK.out _ _ (by have hb := below_alloc (Below.refl wC.heap.size wC) (.cells #[.int .i64 x.f0, .int .i64 x.f1, .string x.f2] 37); have hc := HCel.out _ (HFrC.out.below hb) ((hb.block _ (lt_of HOC.out)).trans HOC.out); exact ⟨hc.1, hc.2.2⟩) (fun hHeld => ?_)
            clear hK K
            refine norm_ (a' := ?_) ?_ ?_
            rotate_left
            · show Act.put _ (some 119) _ = _
              simp only [Act.put, List.setIfInBounds_toArray, List.set_cons_zero, List.set_cons_succ, i64_w, i32_w]
              rfl
            have hbsz : w5.heap.size ≤ wC.heap.size := HFrC.out.size
            refine one_ (i := 7) (N := some 120) #[true, true, true, true, true, true, true, true, false, false] rfl rfl (one_of HT_.out (by kernel_rfl)) (by decide) (fun K hK => ?_)
            refine Kd.R_append_step k37 (w0 := wC) w5.heap.size (by rfl) (.tmp 114) (.tmp 119) 22 37 (.agg #[(.int .i64 0), (.int .i64 0), (.string ⟨#[]⟩)]) 32 rfl Tryz.underlying22 info37 rfl (by decide) (by omega) vp pp x [.int .i64 x.f0, .int .i64 x.f1, .string x.f2] (fun _ => True) (fun _ => False) rfl rfl (k37_mkM _ _ _ x) (fun _ hk => hk.elim) (fun _ _ => trivial) HRC.out (Below.refl _ _) hbsz HLL.out ?_
            intro v9 w9 ho hb hg hat
            obtain ⟨Av, nv, cv, rfl⟩ : ∃ A n c, v9 = Value.slice A n c := (by obtain ⟨A, c, h⟩ := Kd.R_slice ho; exact ⟨A, _, c, h⟩)
            have HFr9 := Aside0.mk (HFrC.out.grown hg (fun k e => Kd.R_base HRC.out k e))
            have HO9 := Aside0.mk (blk_by HRC.out HOC.out (by decide) hg)
            have HR9 := Aside0.mk ho
            clear ho hb hg hat
            refine hK.out _ _ (by have hc := HCel.out _ HFr9.out HO9.out; exact ⟨hc.1, hc.2.2⟩) (fun hHeld => ?_)
            clear hK K
            refine norm_ (a' := ?_) ?_ ?_
            rotate_left
            · show Act.put _ (some 120) _ = _
              simp only [Act.put, List.setIfInBounds_toArray, List.set_cons_zero, List.set_cons_succ, i64_w, i32_w]
              rfl
            refine pure_ (i := 8) (N := some 121) (v := ?_) (a' := ?_) #[true, true, true, true, true, true, true, true, true, false] rfl rfl (any_of HT_.out (by kernel_rfl)) (fun _ _ _ h => h) (Or.inl ⟨by rfl, ?_⟩) ?_ ?_
            rotate_left
            · intro w'
              go_simp
              with_reducible rfl
            rotate_left
            · simp only [Act.put, List.setIfInBounds_toArray, List.set_cons_zero, List.set_cons_succ, i64_w, i32_w]
              rfl
            have o1 : w9.cell? ⟨w2.heap.size, 0, none⟩ = some vp := cell_of HO9.out 0
            have of1 : w9.frozen? ⟨w2.heap.size, 0, none⟩ = false := frozen_of HO9.out 0
            refine last_ (i := 9) (N := none) #[true, true, true, true, true, true, true, true, true, true] rfl rfl (one_of HT_.out (by kernel_rfl)) (by decide) (fun K hK => ?_)
            refine skip_ (w1 := ?_) (by rfl) rfl ?_ ?_
            rotate_left
            · go_simp
              rfl
            refine hK.out _ _ ?_
            refine done_ (done_of HT_.out (by kernel_rfl)) ?_
            have HFr10 := Aside0.mk (HFr9.out.set 0 (.slice Av nv cv))
            have hO10 := setCell_heap (i := 0) HO9.out (.slice Av nv cv)
            have HO10 : Aside0 ((w9.setCell ⟨w2.heap.size, 0, none⟩ (.slice Av nv cv)).heap[w2.heap.size]? = some (.cells #[.slice Av nv cv, .slice Avs nsp cvs, .slice Aw rws.length cw] 25 (0, 0))) := Aside0.mk (by simpa using hO10)
            have HR10 := Aside0.mk (R37_set (g := w2.heap.size) (i := 0) (u := .slice Av nv cv) HR9.out HO9.out)
            clear hO10 o1 of1 hHeld HT_ HFrB HOB HRB HFrC HOC HRC HFr9 HO9 HR9 hbsz
            --@V
            go_wp2
            go_roundg (pts.length - (k4 + 1))
            case measure => have := HM6.out; omega
            case rel => exact ⟨k4 + 1, _, _, by go_num, hltD, ⟨Nat.le_refl _⟩, ⟨HFr10.out⟩, ⟨HO10.out⟩, ⟨HR10.out⟩, ⟨by rw [HPp.out, take_snoc HXx.out, List.filter_append]; simp [HCov.out]⟩⟩
        · obtain rfl : k4 = pts.length := by omega
          have hltzD : ¬ (pts.length : Int) < (pts.length : Int) := by omega
          have hpp := HPp.out
          rw [List.take_length] at hpp
          obtain ⟨Avp, cvp, hvp⟩ := Kd.R_slice HR6.out
          subst hvp
          have HR7 := Aside0.mk (Kd.R_reads' HR6.out)
          generalize hnpp : pp.length = npp at *
          have o0 : w6.cell? ⟨w2.heap.size, 0, none⟩ = some (.slice Avp npp cvp) := cell_of HO6.out 0
          have o1 : w6.cell? ⟨w2.heap.size, 1, none⟩ = some (.slice Avs nsp cvs) := cell_of HO6.out 1
          have o2 : w6.cell? ⟨w2.heap.size, 2, none⟩ = some (.slice Aw rws.length cw) := cell_of HO6.out 2
          have hlt1' : w.heap.size + 1 < w2.heap.size := lt_of HX1.out
          have HX5 := Aside0.mk ((HFr5.out.low.block _ hlt1').trans HY1.out)
          have HX6 := Aside0.mk ((HFr6.out.low.block _ hlt1').trans HX5.out)
          have j0 : w6.cell? ⟨w.heap.size + 1, 0, none⟩ = some (.slice none 0 0) := cell_of HX6.out 0
          have j1 : w6.cell? ⟨w.heap.size + 1, 1, none⟩ = some (.slice none 0 0) := cell_of HX6.out 1
          have j2 : w6.cell? ⟨w.heap.size + 1, 2, none⟩ = some (.slice none 0 0) := cell_of HX6.out 2
          have k0 : w6.frozen? ⟨w.heap.size + 1, 0, none⟩ = false := frozen_of HX6.out 0
          have k1 : w6.frozen? ⟨w.heap.size + 1, 1, none⟩ = false := frozen_of HX6.out 1
          have k2 : w6.frozen? ⟨w.heap.size + 1, 2, none⟩ = false := frozen_of HX6.out 2
          have e1 : (w.heap.size + 1 = w2.heap.size) = False := eq_false (by omega)
          have e2 : (w2.heap.size = w.heap.size + 1) = False := eq_false (by omega)
          have HPp2 := Aside0.mk hpp
          have HNpp := Aside0.mk hnpp
          clear hpp hnpp HPp
          --@W
          go_wp2
          --@X
          refine bodyPost_ret (results_c1 rfl _ _ (w.heap.size + 1) 25 #[.slice Avp npp cvp, .slice Avs nsp cvs, .slice Aw rws.length cw] (0, 0) _ rfl (setCell_heap (setCell_heap (setCell_heap HX6.out _) _) _) Tryz.underlying25 rfl (by kernel_rfl)) rfl ?_
          have hFr7 : Fr w6 (w.heap.size + 1) (((w6.setCell ⟨w.heap.size + 1, 0, none⟩ (.slice Avp npp cvp)).setCell ⟨w.heap.size + 1, 1, none⟩ (.slice Avs nsp cvs)).setCell ⟨w.heap.size + 1, 2, none⟩ (.slice Aw rws.length cw)) := (((Fr.refl (lt_of HX6.out)).set 0 _).set 1 _).set 2 _
          have hSl := allSl (a := .slice none 0 0) (b := .slice none 0 0) (c := .slice none 0 0) rfl rfl rfl
          have hpn := places_norm HSp.out
          refine ⟨⟨pp, sp, rws⟩, pl.map plOf, _, rfl, ⟨hpn.1, hpn.2.1, by rw [HSp5.out]; exact hpn.2.2, ⟨pts, HSq.out, ?_⟩, HSw.out⟩, ⟨Avp, Avs, Aw, cvp, cvs, cw, ?_, ?_⟩, ?_⟩
          · show pp = _
            rw [HPp2.out]
            refine List.filter_congr (fun x _ => ?_)
            rw [HSp5.out, spanned_norm HSp.out]
          · show _ = fv _ _ _ _ _ _ _
            unfold fv
            rw [HNpp.out, HNsp.out]
          · refine ⟨?_, ?_, ?_, ?_, ?_, HRw.out⟩
            · exact hFr7.C37 HX6.out hSl (by have := HR7.out.2.2; rw [HNpp.out]; exact this)
            · have := HR7.out.2.1; show pp.length ≤ _; rw [HNpp.out]; exact this
            · exact hFr7.C46 HX6.out hSl (HFr6.out.C46 HO5q.out HSl5.out (by have := HR5.out.2.2; rw [HNsp.out]; exact this))
            · have := HR5.out.2.1; show sp.length ≤ _; rw [HNsp.out]; exact this
            · exact hFr7.C37 HX6.out hSl (Kd.C_below HCw.out (Below.trans (Below.trans HBo3.out HFr5.out.low) HFr6.out.low))
          · exact Below.trans (Below.trans HB5.out (HFr6.out.low.mono (Nat.le_of_lt hlt1))) (hFr7.low.mono (Nat.le_succ _))
end Go.Proofs.YtldlenjfpjihdaaGreat.PS
end
section
namespace Go.Proofs.YtldlenjfpjihdaaGreat.PS
open Go Go.RowKit Go.Proofs Go.Maps Go.WideMaps Go.Proofs.YtldlenjfpjihdaaGreatW.PrintWords Go.Proofs.YtldlenjfpjihdaaGreatW.PrintLast Go.Proofs.YtldlenjfpjihdaaGreatW.PrintMore
set_option linter.unusedVariables false
set_option linter.unusedSimpArgs false
def okI (t i : Int) : Bool := decide (t ≥ 0) && decide (i ≥ -1)
def badP (p : S37) : Bool := !okI p.f0 p.f1
def badS (s : S46) : Bool := !okI s.f0 s.f1
def Ft.len (f : Ft) : Nat := f.ps.length + f.ss.length + f.ws.length
def Ft.bad (f : Ft) : Bool := f.ps.any badP || (f.ss.any badS || f.ws.any badP)
def checkS (f : Ft) : Int := if f.len > 65536 then 2 else if f.bad = true then 1 else 0
theorem place_eq (t i : Int) : vellumref17_place.f t i = some (okI t i) := by
  unfold vellumref17_place.f okI
  by_cases h : t ≥ 0
  · rw [if_pos h]; simp [h]
  · rw [if_neg h]; simp [h]
theorem may_eq (t i : Int) : sets_may.f t i = some (okI t i) := place_eq t i
theorem check_l2 (ps : List S37) (ss : List S46) (ws : List S37) (hl : ps.length < 4611686018427387904 ∧ ss.length < 4611686018427387904 ∧ ws.length < 4611686018427387904) : ∀ (m i : Nat), i + m = ws.length → Ev (fun k => vellumref17_Check.l2 k (i : Int) ps ss ws) (if ((ws.drop i).any badP) = true then 1 else 0) := by
  intro m
  induction m with
  | zero =>
    intro i hi
    rw [List.drop_eq_nil_of_le (by omega)]
    refine Ev.from_ 1 fun k => ?_
    simp only [vellumref17_Check.l2]
    rw [if_neg (by omega)]
    rfl
  | succ m ih =>
    intro i hi
    obtain ⟨x, hx⟩ : ∃ x, ws[i]? = some x := ⟨_, List.getElem?_eq_getElem (by omega)⟩
    rw [any_drop hx]
    by_cases e : badP x = true
    · rw [e]
      refine Ev.from_ 1 fun k => ?_
      simp only [vellumref17_Check.l2]
      have e' : okI x.f0 x.f1 = false := by unfold badP at e; simpa using e
      rw [if_pos (by omega), if_pos (by omega), rd37 hx, place_eq, e', Option.bind_some, if_neg (by decide)]
      rfl
    · rw [Bool.not_eq_true] at e
      rw [e, Bool.false_or]
      refine Ev.step (g := fun k => vellumref17_Check.l2 k ((i + 1 : Nat) : Int) ps ss ws) (fun k => ?_) (ih (i + 1) (by omega))
      simp only [vellumref17_Check.l2]
      have e' : okI x.f0 x.f1 = true := by unfold badP at e; simpa using e
      rw [if_pos (by omega), if_pos (by omega), rd37 hx, place_eq, e', wrap64_id (by omega) (by omega), Option.bind_some, if_pos rfl]
      rfl
theorem check_l1 (ps : List S37) (ss : List S46) (ws : List S37) (hl : ps.length < 4611686018427387904 ∧ ss.length < 4611686018427387904 ∧ ws.length < 4611686018427387904) : ∀ (m i : Nat), i + m = ss.length → Ev (fun k => vellumref17_Check.l1 k (i : Int) ps ss ws) (if ((ss.drop i).any badS || ws.any badP) = true then 1 else 0) := by
  intro m
  induction m with
  | zero =>
    intro i hi
    rw [List.drop_eq_nil_of_le (by omega)]
    refine Ev.step (g := fun k => vellumref17_Check.l2 k ((0 : Nat) : Int) ps ss ws) (fun k => ?_) (by have h := check_l2 ps ss ws hl _ 0 (Nat.zero_add _); rw [List.drop_zero] at h; exact h)
    simp only [vellumref17_Check.l1]
    rw [if_neg (by omega)]
    rfl
  | succ m ih =>
    intro i hi
    obtain ⟨x, hx⟩ : ∃ x, ss[i]? = some x := ⟨_, List.getElem?_eq_getElem (by omega)⟩
    rw [any_drop hx]
    by_cases e : badS x = true
    · rw [e]
      refine Ev.from_ 1 fun k => ?_
      simp only [vellumref17_Check.l1]
      have e' : okI x.f0 x.f1 = false := by unfold badS at e; simpa using e
      rw [if_pos (by omega), if_pos (by omega), rd46 hx, place_eq, e', Option.bind_some, if_neg (by decide)]
      rfl
    · rw [Bool.not_eq_true] at e
      rw [e, Bool.false_or]
      refine Ev.step (g := fun k => vellumref17_Check.l1 k ((i + 1 : Nat) : Int) ps ss ws) (fun k => ?_) (ih (i + 1) (by omega))
      simp only [vellumref17_Check.l1]
      have e' : okI x.f0 x.f1 = true := by unfold badS at e; simpa using e
      rw [if_pos (by omega), if_pos (by omega), rd46 hx, place_eq, e', wrap64_id (by omega) (by omega), Option.bind_some, if_pos rfl]
      rfl
theorem check_l0 (ps : List S37) (ss : List S46) (ws : List S37) (hl : ps.length < 4611686018427387904 ∧ ss.length < 4611686018427387904 ∧ ws.length < 4611686018427387904) : ∀ (m i : Nat), i + m = ps.length → Ev (fun k => vellumref17_Check.l0 k (i : Int) ps ss ws) (if ((ps.drop i).any badP || (ss.any badS || ws.any badP)) = true then 1 else 0) := by
  intro m
  induction m with
  | zero =>
    intro i hi
    rw [List.drop_eq_nil_of_le (by omega)]
    refine Ev.step (g := fun k => vellumref17_Check.l1 k ((0 : Nat) : Int) ps ss ws) (fun k => ?_) (by have h := check_l1 ps ss ws hl _ 0 (Nat.zero_add _); rw [List.drop_zero] at h; exact h)
    simp only [vellumref17_Check.l0]
    rw [if_neg (by omega)]
    rfl
  | succ m ih =>
    intro i hi
    obtain ⟨x, hx⟩ : ∃ x, ps[i]? = some x := ⟨_, List.getElem?_eq_getElem (by omega)⟩
    rw [any_drop hx]
    by_cases e : badP x = true
    · rw [e]
      refine Ev.from_ 1 fun k => ?_
      simp only [vellumref17_Check.l0]
      have e' : okI x.f0 x.f1 = false := by unfold badP at e; simpa using e
      rw [if_pos (by omega), if_pos (by omega), rd37 hx, place_eq, e', Option.bind_some, if_neg (by decide)]
      rfl
    · rw [Bool.not_eq_true] at e
      rw [e, Bool.false_or]
      refine Ev.step (g := fun k => vellumref17_Check.l0 k ((i + 1 : Nat) : Int) ps ss ws) (fun k => ?_) (ih (i + 1) (by omega))
      simp only [vellumref17_Check.l0]
      have e' : okI x.f0 x.f1 = true := by unfold badP at e; simpa using e
      rw [if_pos (by omega), if_pos (by omega), rd37 hx, place_eq, e', wrap64_id (by omega) (by omega), Option.bind_some, if_pos rfl]
      rfl
theorem rcheck_ev (f : Ft) (hs : f.small) : Ev (fun k => vellumref17_Check.f k f.ps f.ss f.ws) (checkS f) := by
  have hn := hs.n
  unfold vellumref17_Check.f vellumref17_size.f checkS Ft.len
  have h := check_l0 f.ps f.ss f.ws ⟨by omega, by omega, by omega⟩ f.ps.length 0 (Nat.zero_add _)
  have e1 : wrap64 ((f.ps.length : Int) + (f.ss.length : Int)) = (f.ps.length : Int) + (f.ss.length : Int) := wrap64_id (by omega) (by omega)
  have e2 : wrap64 ((f.ps.length : Int) + (f.ss.length : Int) + (f.ws.length : Int)) = (f.ps.length : Int) + (f.ss.length : Int) + (f.ws.length : Int) := wrap64_id (by omega) (by omega)
  rw [e1, e2]
  by_cases hc : f.ps.length + f.ss.length + f.ws.length > 65536
  · rw [if_pos hc]
    refine Ev.from_ 0 fun k => ?_
    rw [Option.bind_some, if_pos (by omega)]
  · rw [if_neg hc]
    obtain ⟨n, hn⟩ := h
    refine ⟨n, fun k hk => ?_⟩
    dsimp only [Option.bind_some]
    rw [if_neg (by omega)]
    exact hn k hk
theorem rcheckV {w : World} {v : Value} {f : Ft} (h : FtV w v f) (hs : f.small) : Calls Tryz.prog 12 #[v] w fun e w' => e = .returned (.int .i64 (checkS f)) ∧ Below w.heap.size w w' := by
  obtain ⟨A0, A1, A2, c0, c1, c2, rfl, h⟩ := h
  obtain ⟨k, hk⟩ := (rcheck_ev f hs).ex
  exact vellumref17_Check.calls k A0 c0 f.ps A1 c1 f.ss A2 c2 f.ws _ w h.h0 h.l0 h.h1 h.l1 h.h2 h.l2 hk
theorem check1_any (p : S37) (w : World) : Calls Tryz.prog 23 (#[pv p] ++ #[]) w fun e w' => e = .returned (.bool (badP p)) ∧ Below w.heap.size w w' := by
  have hm := fun W => sets_may.calls p.f0 p.f1 (okI p.f0 p.f1) W (may_eq p.f0 p.f1)
  unfold pv badP
  generalize okI p.f0 p.f1 = ok at *
  go_enter Tryz.func23, Tryz.ntmps23
  go_wp2_with (go_at_call 24; refine (hm _).mono ?_; rintro e w' ⟨rfl, hD⟩; have HD := Aside0.mk hD; clear hD)
  go_ret
  exact ⟨rfl, below_step (below_alloc (Below.refl w.heap.size w) _) HD.out.below⟩
theorem enter23 : ∀ args w, (callFunc 23 args).run Tryz.prog w = .ok (.enter 23 args) w := fun args w => by simp [go_sem]
theorem check2_any (s : S46) (w : World) : Calls Tryz.prog 28 (#[sv s] ++ #[]) w fun e w' => e = .returned (.bool (badS s)) ∧ Below w.heap.size w w' := by
  have hm := fun W => sets_may.calls s.f0 s.f1 (okI s.f0 s.f1) W (may_eq s.f0 s.f1)
  unfold sv badS
  generalize okI s.f0 s.f1 = ok at *
  go_enter Tryz.func28, Tryz.ntmps28
  go_wp2_with (go_at_call 24; refine (hm _).mono ?_; rintro e w' ⟨rfl, hD⟩; have HD := Aside0.mk hD; clear hD)
  go_ret
  exact ⟨rfl, below_step (below_alloc (Below.refl w.heap.size w) _) HD.out.below⟩
theorem enter28 : ∀ args w, (callFunc 28 args).run Tryz.prog w = .ok (.enter 28 args) w := fun args w => by simp [go_sem]
theorem contf_point (p : S37 → Bool) (g : Nat) (lb : Array Value) (eg : ∀ args w, (callFunc g args).run Tryz.prog w = .ok (.enter g args) w) (A : Option Addr) (xs : List S37) (c : Nat) (w : World) (hC : Kd.C k37 w A xs.length xs)
    (hp : ∀ (W : World) (x : S37), x ∈ xs → Below w.heap.size w W → Calls Tryz.prog g (#[pv x] ++ lb) W fun e w' => e = .returned (.bool (p x)) ∧ Below W.heap.size W w') :
    Calls Tryz.prog 26 #[.slice A xs.length c, .func (.func g) #[] lb] w fun e w' => e = .returned (.bool (xs.any p)) ∧ Below w.heap.size w w' := by
  have hi := idxf_point p g lb eg A xs c w hC hp
  clear hp hC
  go_enter Tryz.func26, Tryz.ntmps26
  go_wp2_with (go_at_call 59; refine hi.mono ?_; rintro e w' ⟨rfl, hb⟩)
  go_ret
  exact ⟨by rw [← idxF_nonneg]; rfl, hb⟩
theorem size_ev (f : Ft) (hs : f.small) : sets_size.f f.ps f.ss f.ws = some (f.len : Int) := by
  have hn := hs.n
  unfold sets_size.f Ft.len
  rw [wrap64_id (n := (f.ps.length : Int) + (f.ss.length : Int)) (by omega) (by omega), wrap64_id (by omega) (by omega)]
  rfl
set_option maxHeartbeats 8000000 in
set_option maxRecDepth 100000 in
theorem check_any (f : Ft) (A0 A1 A2 : Option Addr) (c0 c1 c2 : Nat) (w : World) (hf : FtR w A0 A1 A2 c0 c1 c2 f) (hs : f.small) :
    Calls Tryz.prog 11 #[.agg #[.slice A0 f.ps.length c0, .slice A1 f.ss.length c1, .slice A2 f.ws.length c2]] w fun e w' => e = .returned (.int .i64 (checkS f)) ∧ Below w.heap.size w w' := by
  have hB0 := below_alloc (Below.refl w.heap.size w) (ftO A0 A1 A2 c0 c1 c2 f)
  have HX := Aside0.mk (heap_new w (ftO A0 A1 A2 c0 c1 c2 f))
  have HSz := Aside0.mk (sets_size.calls A0 c0 f.ps A1 c1 f.ss A2 c2 f.ws (f.len : Int) (w.alloc (ftO A0 A1 A2 c0 c1 c2 f)) (Kd.C_below hf.h0 hB0) hf.l0 (Kd.C_below hf.h1 hB0) hf.l1 (Kd.C_below hf.h2 hB0) hf.l2 (size_ev f hs))
  have HP := Aside0.mk (fun (W : World) (h : Below w.heap.size w W) => contf_point badP 23 #[] enter23 A0 f.ps c0 W (Kd.C_below hf.h0 h) (fun V x _ _ => check1_any x V))
  have HW := Aside0.mk (fun (W : World) (h : Below w.heap.size w W) => contf_point badP 23 #[] enter23 A2 f.ws c2 W (Kd.C_below hf.h2 h) (fun V x _ _ => check1_any x V))
  have HS := Aside0.mk (fun (W : World) (h : Below w.heap.size w W) => contf_span badS 28 #[] enter28 A1 f.ss c1 W (Kd.C_below hf.h1 h) (fun V x _ _ => check2_any x V))
  have HB := Aside0.mk hB0
  unfold ftO at HSz HX HB
  clear hB0 hf
  have hck : checkS f = if f.len > 65536 then 2 else if f.bad = true then 1 else 0 := rfl
  have hbd : f.bad = (f.ps.any badP || (f.ss.any badS || f.ws.any badP)) := rfl
  rw [hck, hbd]
  clear hck hbd
  have hbl : f.len < 90000000000000 := by have := hs.n; unfold Ft.len; omega
  clear hs
  generalize f.len = n at *
  generalize hlp : f.ps.any badP = bp at *
  generalize hlw : f.ws.any badP = bw at *
  generalize hls : f.ss.any badS = bs_ at *
  generalize f.ps.length = n0 at *
  generalize f.ss.length = n1 at *
  generalize f.ws.length = n2 at *
  clear hlp hlw hls
  go_enter Tryz.func11, Tryz.ntmps11
  by_cases hc : n > 65536
  · rw [if_pos hc]
    have hcz : (n : Int) > 65536 := by omega
    go_wp2_with (go_at_call 25; refine HSz.out.mono ?_; rintro e w2 ⟨rfl, hb⟩; have HB2 := Aside0.mk (below_step HB.out hb); clear hb)
    go_ret
    exact ⟨rfl, HB2.out⟩
  · rw [if_neg hc]
    have hcz : ¬ (n : Int) > 65536 := by omega
    cases bp <;> cases bw <;> cases bs_
    all_goals
      go_wp2_with (first | (go_at_call 25; refine HSz.out.mono ?_; rintro e w2 ⟨rfl, hb⟩; have HX2 := Aside0.mk ((hb.block _ (lt_of HX.out)).trans HX.out); have HB2 := Aside0.mk (below_step HB.out hb); have p0 : w2.cell? ⟨w.heap.size, 0, none⟩ = some (.slice A0 n0 c0) := cell_of HX2.out 0; have p1 : w2.cell? ⟨w.heap.size, 1, none⟩ = some (.slice A1 n1 c1) := cell_of HX2.out 1; have p2 : w2.cell? ⟨w.heap.size, 2, none⟩ = some (.slice A2 n2 c2) := cell_of HX2.out 2; clear hb HSz HX HB) | (go_at_call 26; refine (HP.out _ HB2.out).mono ?_; rintro e w3 ⟨rfl, hb⟩; have HX3 := Aside0.mk ((hb.block _ (lt_of HX2.out)).trans HX2.out); have HB3 := Aside0.mk (below_step HB2.out hb); have p0 : w3.cell? ⟨w.heap.size, 0, none⟩ = some (.slice A0 n0 c0) := cell_of HX3.out 0; have p1 : w3.cell? ⟨w.heap.size, 1, none⟩ = some (.slice A1 n1 c1) := cell_of HX3.out 1; have p2 : w3.cell? ⟨w.heap.size, 2, none⟩ = some (.slice A2 n2 c2) := cell_of HX3.out 2; clear hb HP HX2) | (go_at_call 26; refine (HW.out _ HB3.out).mono ?_; rintro e w4 ⟨rfl, hb⟩; have HX4 := Aside0.mk ((hb.block _ (lt_of HX3.out)).trans HX3.out); have HB4 := Aside0.mk (below_step HB3.out hb); have p0 : w4.cell? ⟨w.heap.size, 0, none⟩ = some (.slice A0 n0 c0) := cell_of HX4.out 0; have p1 : w4.cell? ⟨w.heap.size, 1, none⟩ = some (.slice A1 n1 c1) := cell_of HX4.out 1; have p2 : w4.cell? ⟨w.heap.size, 2, none⟩ = some (.slice A2 n2 c2) := cell_of HX4.out 2; clear hb HW HX3) | (go_at_call 27; refine (HS.out _ HB4.out).mono ?_; rintro e w5 ⟨rfl, hb⟩; have HB5 := Aside0.mk (below_step HB4.out hb); clear hb))
      go_ret
      first | exact ⟨rfl, HB5.out⟩ | exact ⟨rfl, HB4.out⟩ | exact ⟨rfl, HB3.out⟩
theorem checkV {w : World} {v : Value} {f : Ft} (h : FtV w v f) (hs : f.small) : Calls Tryz.prog 11 #[v] w fun e w' => e = .returned (.int .i64 (checkS f)) ∧ Below w.heap.size w w' := by
  obtain ⟨A0, A1, A2, c0, c1, c2, rfl, h⟩ := h
  exact check_any f A0 A1 A2 c0 c1 c2 w h hs
end Go.Proofs.YtldlenjfpjihdaaGreat.PS
end
section
namespace Go.Proofs.YtldlenjfpjihdaaGreat.PS
open Go Go.RowKit Go.Proofs Go.Maps Go.WideMaps Go.Proofs.YtldlenjfpjihdaaGreatW.PrintWords Go.Proofs.YtldlenjfpjihdaaGreatW.PrintLast Go.Proofs.YtldlenjfpjihdaaGreatW.PrintMore
set_option linter.unusedVariables false
set_option linter.unusedSimpArgs false
open Go.Proofs.YtldlenjfpjihdaaGreat.PU (unionR)
def Ft.nil : Ft := ⟨[], [], []⟩
def NormR (f g : Ft) : Prop := (checkS f = 0 ∧ ∃ pl, NormOf f g pl) ∨ (checkS f ≠ 0 ∧ g = Ft.nil)
def Ft.wfs (f : Ft) : Prop := f.wf ∧ ∀ s ∈ f.ss, wfL (plS s)
theorem check_len {f : Ft} (h : checkS f = 0) : f.ps.length + f.ss.length + f.ws.length ≤ 65536 := by
  unfold checkS Ft.len at h
  by_cases h1 : f.ps.length + f.ss.length + f.ws.length > 65536
  · rw [if_pos h1] at h; cases h
  · omega
theorem FtO.nil (w : World) (b : Nat) : FtO w b (.agg #[.slice none 0 0, .slice none 0 0, .slice none 0 0]) Ft.nil (.slice none 0 0) (.slice none 0 0) (.slice none 0 0) := ⟨rfl, .inl ⟨rfl, rfl⟩, .inl ⟨rfl, rfl⟩, .inl ⟨rfl, rfl⟩, fun k h => by simp [Value.ownBlock] at h⟩
theorem FtO.setc {w : World} {b g i : Nat} {v u : Value} {f : Ft} {v0 v1 v2 : Value} {cs : Array Value} (h : FtO w b v f v0 v1 v2) (hb : w.heap[g]? = some (.cells cs 25 (0, 0))) : FtO (w.setCell ⟨g, i, none⟩ u) b v f v0 v1 v2 :=
  ⟨h.eq, h.h0.setc hb (by decide) i u, h.h1.setc hb (by decide) i u, h.h2.setc hb (by decide) i u, h.ne⟩
theorem FtO.lower {w : World} {b b' : Nat} {v : Value} {f : Ft} {v0 v1 v2 : Value} (h : FtO w b v f v0 v1 v2) (hb : b' ≤ b) : FtO w b' v f v0 v1 v2 := ⟨h.eq, OwnG_lower h.h0 hb, OwnG_lower h.h1 hb, OwnG_lower h.h2 hb, h.ne⟩
theorem FtV.keep {w3 w : World} {bo : Nat} {v : Value} {f : Ft} (hf : FtV w3 v f) (h : Fr w3 bo w) {cs : Array Value} {t : Nat} {fr : Nat × Nat} (hb : w3.heap[bo]? = some (.cells cs t fr)) (hs : ∀ (i : Nat) (v : Value), cs[i]? = some v → isSl v = true) : FtV w v f := by
  obtain ⟨A0, A1, A2, c0, c1, c2, e, h0, l0, h1, l1, h2, l2⟩ := hf
  exact ⟨A0, A1, A2, c0, c1, c2, e, h.C37 hb hs h0, l0, h.C46 hb hs h1, l1, h.C37 hb hs h2, l2⟩
end Go.Proofs.YtldlenjfpjihdaaGreat.PS
end
section
namespace Go.Proofs.YtldlenjfpjihdaaGreat.OpenK
open Go.RowKit Go.Proofs.YtldlenjfpjihdaaGreatW.PrintWords Go.Proofs.YtldlenjfpjihdaaGreat.PS
def wf37 (x : S37) : Prop := (Lit.int .i64 x.f0).wf = true ∧ (Lit.int .i64 x.f1).wf = true ∧ x.f2.size ≤ 140737488351232
theorem wf37_P {x : S37} (h : wf37 x) : wfP x := ⟨h.1, h.2.1, Nat.le_trans h.2.2 (by decide)⟩
theorem opn37 : Opn Tryz.prog 37 k37 wf37 := by
 refine Opn.struct (kd := (Kd.pair (Kd.int .i64) (Kd.pair (Kd.int .i64) Kd.string))) (Wf := fun y => (Lit.int .i64 y.1).wf = true ∧ (Lit.int .i64 y.2.1).wf = true ∧ y.2.2.size ≤ 140737488351232) (fun x : S37 => (x.f0, x.f1, x.f2)) (fun y => ⟨y.1, y.2.1, y.2.2⟩) (fun _ => rfl) Tryz.underlying37 (by kernel_rfl) ?_
 change OpnFs Tryz.prog (_ :: _ :: [_]) 0 _ _
 exact (OpnFs.cons (a := (Kd.int .i64)) (b := (Kd.pair (Kd.int .i64) Kd.string)) (Wa := fun y => (Lit.int .i64 y).wf = true) (Wb := (fun y => (Lit.int .i64 y.1).wf = true ∧ y.2.size ≤ 140737488351232)) rfl (by kernel_rfl) (off' := 1) rfl (Opn.int Tryz.underlying3) (OpnFs.cons (a := (Kd.int .i64)) (b := Kd.string) (Wa := fun y => (Lit.int .i64 y).wf = true) (Wb := (fun y => y.size ≤ 140737488351232)) rfl (by kernel_rfl) (off' := 2) rfl (Opn.int Tryz.underlying3) (OpnFs.one (kd := Kd.string) (Wf := fun y => y.size ≤ 140737488351232) rfl (by kernel_rfl) (Opn.string Tryz.underlying9))))
def wf44 (x : S44) : Prop := x.f0.size ≤ 140737488351232 ∧ x.f1.size ≤ 140737488351232 ∧ True
theorem opn44 : Opn Tryz.prog 44 k44 wf44 := by
 refine Opn.struct (kd := (Kd.pair Kd.string (Kd.pair Kd.string Kd.bool))) (Wf := fun y => y.1.size ≤ 140737488351232 ∧ y.2.1.size ≤ 140737488351232 ∧ True) (fun x : S44 => (x.f0, x.f1, x.f2)) (fun y => ⟨y.1, y.2.1, y.2.2⟩) (fun _ => rfl) Tryz.underlying44 (by kernel_rfl) ?_
 change OpnFs Tryz.prog (_ :: _ :: [_]) 0 _ _
 exact (OpnFs.cons (a := Kd.string) (b := (Kd.pair Kd.string Kd.bool)) (Wa := fun y => y.size ≤ 140737488351232) (Wb := (fun y => y.1.size ≤ 140737488351232 ∧ True)) rfl (by kernel_rfl) (off' := 1) rfl (Opn.string Tryz.underlying9) (OpnFs.cons (a := Kd.string) (b := Kd.bool) (Wa := fun y => y.size ≤ 140737488351232) (Wb := (fun y => True)) rfl (by kernel_rfl) (off' := 2) rfl (Opn.string Tryz.underlying9) (OpnFs.one (kd := Kd.bool) (Wf := fun y => True) rfl (by kernel_rfl) (Opn.bool Tryz.underlying4))))
def wf46 (x : S46) : Prop := (Lit.int .i64 x.f0).wf = true ∧ (Lit.int .i64 x.f1).wf = true ∧ wf44 x.f2
theorem opn46 : Opn Tryz.prog 46 k46 wf46 := by
 refine Opn.struct (kd := (Kd.pair (Kd.int .i64) (Kd.pair (Kd.int .i64) k44))) (Wf := fun y => (Lit.int .i64 y.1).wf = true ∧ (Lit.int .i64 y.2.1).wf = true ∧ wf44 y.2.2) (fun x : S46 => (x.f0, x.f1, x.f2)) (fun y => ⟨y.1, y.2.1, y.2.2⟩) (fun _ => rfl) Tryz.underlying46 (by kernel_rfl) ?_
 change OpnFs Tryz.prog (_ :: _ :: [_]) 0 _ _
 exact (OpnFs.cons (a := (Kd.int .i64)) (b := (Kd.pair (Kd.int .i64) k44)) (Wa := fun y => (Lit.int .i64 y).wf = true) (Wb := (fun y => (Lit.int .i64 y.1).wf = true ∧ wf44 y.2)) rfl (by kernel_rfl) (off' := 1) rfl (Opn.int Tryz.underlying3) (OpnFs.cons (a := (Kd.int .i64)) (b := k44) (Wa := fun y => (Lit.int .i64 y).wf = true) (Wb := (fun y => wf44 y)) rfl (by kernel_rfl) (off' := 2) rfl (Opn.int Tryz.underlying3) (OpnFs.one (kd := k44) (Wf := fun y => wf44 y) rfl (by kernel_rfl) opn44)))
def kFt : Kd Ft := Kd.iso (Kd.pair (Kd.slice 37 k37) (Kd.pair (Kd.slice 46 k46) (Kd.slice 37 k37))) (fun x : Ft => (x.ps, x.ss, x.ws))
def wfFt (x : Ft) : Prop := (x.ps.length * 32 ≤ 140737488351232 ∧ ∀ y ∈ x.ps, wf37 y) ∧ (x.ss.length * 56 ≤ 140737488351232 ∧ ∀ y ∈ x.ss, wf46 y) ∧ (x.ws.length * 32 ≤ 140737488351232 ∧ ∀ y ∈ x.ws, wf37 y)
theorem opnFt : Opn Tryz.prog 25 kFt wfFt := by
 refine Opn.struct (kd := (Kd.pair (Kd.slice 37 k37) (Kd.pair (Kd.slice 46 k46) (Kd.slice 37 k37)))) (Wf := fun y => (y.1.length * 32 ≤ 140737488351232 ∧ ∀ z ∈ y.1, wf37 z) ∧ (y.2.1.length * 56 ≤ 140737488351232 ∧ ∀ z ∈ y.2.1, wf46 z) ∧ (y.2.2.length * 32 ≤ 140737488351232 ∧ ∀ z ∈ y.2.2, wf37 z)) (fun x : Ft => (x.ps, x.ss, x.ws)) (fun y => ⟨y.1, y.2.1, y.2.2⟩) (fun _ => rfl) Tryz.underlying25 (by kernel_rfl) ?_
 change OpnFs Tryz.prog (_ :: _ :: [_]) 0 _ _
 exact (OpnFs.cons (a := (Kd.slice 37 k37)) (b := (Kd.pair (Kd.slice 46 k46) (Kd.slice 37 k37))) (Wa := fun y => (y.length * 32 ≤ 140737488351232 ∧ ∀ z ∈ y, wf37 z)) (Wb := (fun y => (y.1.length * 56 ≤ 140737488351232 ∧ ∀ z ∈ y.1, wf46 z) ∧ (y.2.length * 32 ≤ 140737488351232 ∧ ∀ z ∈ y.2, wf37 z))) rfl (by kernel_rfl) (off' := 1) rfl (Opn.slice Tryz.underlying22 opn37 (by kernel_rfl) (by kernel_rfl)) (OpnFs.cons (a := (Kd.slice 46 k46)) (b := (Kd.slice 37 k37)) (Wa := fun y => (y.length * 56 ≤ 140737488351232 ∧ ∀ z ∈ y, wf46 z)) (Wb := (fun y => (y.length * 32 ≤ 140737488351232 ∧ ∀ z ∈ y, wf37 z))) rfl (by kernel_rfl) (off' := 2) rfl (Opn.slice Tryz.underlying23 opn46 (by kernel_rfl) (by kernel_rfl)) (OpnFs.one (kd := (Kd.slice 37 k37)) (Wf := fun y => (y.length * 32 ≤ 140737488351232 ∧ ∀ z ∈ y, wf37 z)) rfl (by kernel_rfl) (Opn.slice Tryz.underlying22 opn37 (by kernel_rfl) (by kernel_rfl)))))
set_option maxRecDepth 100000 in
/-- A foot as_ an argument. -/
theorem argFt {H : Type} {enc : TypeId × Value → H} {W : World} {n : Nat} {v : Value} {d : DataW H} {ps : List MemPlace} {base : Nat} (hv : Value.okWide Tryz.prog W .any base 25 v)
  (h : DataW.trod enc Tryz.prog W 0 (fun _ => true) true n 25 v.cells.toList = some (d, ps)) (hw : (d.weights Tryz.prog 25).all (· ≤ reachBytes) = true) :
  ∃ (A0 A1 A2 : Option Addr) (c0 c1 c2 : Nat) (f : Ft), v = .agg #[.slice A0 f.ps.length c0, .slice A1 f.ss.length c1, .slice A2 f.ws.length c2] ∧ FtR W A0 A1 A2 c0 c1 c2 f ∧ f.small ∧ f.wfs := by
 obtain ⟨f, hK, wf⟩ := opnFt h hw
 obtain ⟨cs, rfl, hsz⟩ := Go.WideShapes.okWide_struct Tryz.underlying25 hv
 obtain ⟨x1, r1, e1, ⟨A0, c0, rfl, l0, h0⟩, x2, r2, rfl, ⟨A1, c1, rfl, l1, h1⟩, ⟨A2, c2, rfl, l2, h2⟩⟩ := hK
 have e2 : cs = #[.slice A0 f.ps.length c0, .slice A1 f.ss.length c1, .slice A2 f.ws.length c2] := by
  cases cs
  simpa [Value.cells] using e1
 subst e2
 exact ⟨A0, A1, A2, c0, c1, c2, f, rfl, ⟨h0, l0, h1, l1, h2, l2⟩, ⟨wf.1.1, wf.2.1.1, wf.2.2.1⟩, ⟨⟨fun y hy => wf37_P (wf.1.2 y hy), fun y hy => wf37_P (wf.2.2.2 y hy)⟩, fun s hs => ⟨(wf.2.1.2 s hs).1, (wf.2.1.2 s hs).2.1⟩⟩⟩
end Go.Proofs.YtldlenjfpjihdaaGreat.OpenK
end
section
namespace Go.Proofs.YtldlenjfpjihdaaGreat.PS
open Go Go.RowKit Go.Proofs
set_option linter.unusedVariables false
theorem strict_one {α : Type} {lt : α → α → Prop} (irr : ∀ a, ¬ lt a a) (tr : ∀ a b c, lt a b → lt b c → lt a c) : ∀ (l r : List α), l.Pairwise lt → r.Pairwise lt → (∀ x, x ∈ l ↔ x ∈ r) → l = r
  | [], [], _, _, _ => rfl
  | [], y :: r, _, _, h => by have := (h y).2 (by simp); simp at this
  | x :: l, [], _, _, h => by have := (h x).1 (by simp); simp at this
  | x :: l, y :: r, hl, hr, h => by
    obtain ⟨hx, hl'⟩ := List.pairwise_cons.1 hl
    obtain ⟨hy, hr'⟩ := List.pairwise_cons.1 hr
    have e : x = y := by
      rcases List.mem_cons.1 ((h x).1 (by simp)) with e | h1
      · exact e
      · rcases List.mem_cons.1 ((h y).2 (by simp)) with e | h2
        · exact e.symm
        · exact absurd (tr _ _ _ (hx y h2) (hy x h1)) (irr x)
    subst e
    rw [strict_one irr tr l r hl' hr' (fun z => ?_)]
    have hz := h z
    simp only [List.mem_cons] at hz
    constructor
    · intro hm
      rcases hz.1 (.inr hm) with e | h1
      · subst e; exact absurd (hx z hm) (irr z)
      · exact h1
    · intro hm
      rcases hz.2 (.inr hm) with e | h1
      · subst e; exact absurd (hy z hm) (irr z)
      · exact h1
theorem Sorts.one {l a b : List S37} (ha : Sorts l a) (hb : Sorts l b) : a = b :=
  strict_one ltP_irrefl (fun _ _ _ => ltP_trans) a b ha.1 hb.1 (fun x => (ha.2.1 x).trans (hb.2.1 x).symm)
theorem NormOf.one {f g g' : Ft} {pl pl' : List SPl} (h : NormOf f g pl) (h' : NormOf f g' pl') : g = g' := by
  have e : pl = pl' := strict_one ltL_irrefl (fun _ _ _ => ltL_trans) pl pl' h.sp h'.sp (fun x => (h.mp x).trans (h'.mp x).symm)
  subst e
  obtain ⟨q, hq, e1⟩ := h.ps
  obtain ⟨q', hq', e2⟩ := h'.ps
  rw [← hq.one hq'] at e2
  have e3 := h.ws.one h'.ws
  have e4 := h.ss.trans h'.ss.symm
  have e5 := e1.trans e2.symm
  cases g; cases g'
  simp_all
theorem NormR.one {f g g' : Ft} (h : NormR f g) (h' : NormR f g') : g = g' := by
  rcases h with ⟨h0, pl, h⟩ | ⟨h0, rfl⟩
  · rcases h' with ⟨_, pl', h'⟩ | ⟨h1, _⟩
    · exact h.one h'
    · exact absurd h0 h1
  · rcases h' with ⟨h1, _⟩ | ⟨_, rfl⟩
    · exact absurd h1 h0
    · rfl
theorem nodup_len {α : Type} [DecidableEq α] : ∀ (l L : List α), l.Nodup → (∀ x ∈ l, x ∈ L) → l.length ≤ L.length
  | [], _, _, _ => Nat.zero_le _
  | x :: l, L, hn, hs => by
    obtain ⟨h1, h2⟩ := List.nodup_cons.1 hn
    have hx := hs x (by simp)
    have := nodup_len l (L.erase x) h2 (fun y hy => (List.mem_erase_of_ne (fun e => h1 (by rw [← e]; exact hy))).2 (hs y (List.mem_cons_of_mem _ hy)))
    rw [List.length_erase_of_mem hx] at this
    have := List.length_pos_of_mem hx
    rw [List.length_cons]
    omega
theorem NormOf.pl_len {f g : Ft} {pl : List SPl} (h : NormOf f g pl) : pl.length ≤ f.ss.length := by
  have := nodup_len pl (f.ss.map plS) (h.sp.imp (fun hab e => by subst e; exact ltL_irrefl _ hab)) (fun p hp => by
    obtain ⟨s, hs, hb⟩ := List.any_eq_true.1 ((h.mp p).1 hp)
    exact List.mem_map.2 ⟨s, hs, (atP_iff s p).1 hb⟩)
  rwa [List.length_map] at this
theorem NormOf.small {f g : Ft} {pl : List SPl} (h : NormOf f g pl) (hn : f.ps.length + f.ss.length + f.ws.length ≤ 65536) : g.small := by
  obtain ⟨q, hq, e⟩ := h.ps
  have h1 : g.ps.length ≤ f.ps.length := by rw [e]; exact Nat.le_trans (List.length_filter_le _ _) hq.2.2
  have h2 := h.ws.2.2
  have h3 := spans_len f.ss (by omega) pl (by have := h.pl_len; omega)
  rw [← h.ss] at h3
  exact ⟨by omega, by omega, by omega⟩
theorem NormR.small {f g : Ft} (h : NormR f g) : g.small := by
  rcases h with ⟨h0, pl, h⟩ | ⟨_, rfl⟩
  · exact h.small (check_len h0)
  · exact ⟨by decide, by decide, by decide⟩
end Go.Proofs.YtldlenjfpjihdaaGreat.PS
end
section
namespace Go.Proofs.YtldlenjfpjihdaaGreat.PU
open Go.Proofs.YtldlenjfpjihdaaGreat.PS
set_option linter.unusedSimpArgs false
set_option linter.unusedVariables false
theorem low_none : ∀ (l : List S44) (s : S44) (k : List UInt8), k < bs s.f0 → Apart (s :: l) → (s :: l).any (hasR · k) = false
  | [], s, k, h0, _ => by simp [hasR, h0]
  | t :: l, s, k, h0, h1 => by
    have hs : bs s.f0 < bs s.f1 := by simpa [emptyR, h1.2.1] using h1.1
    rw [List.any_cons, low_none l t k (List.lt_trans h0 (List.lt_trans hs h1.2.2.1)) h1.2.2.2]
    simp [hasR, h0]
theorem first_in {r : S44} (h : emptyR r = false) : hasR r (bs r.f0) = true := by
  unfold emptyR at h; unfold hasR
  have := lt_irrefl' (bs r.f0)
  cases hf : r.f2 <;> simp_all
theorem apart_head {r : S44} {l : List S44} (h : Apart (r :: l)) : emptyR r = false := by
  cases l with
  | nil => exact h
  | cons => exact h.1
theorem apart_tail {r : S44} {l : List S44} (h : Apart (r :: l)) : Apart l := by
  cases l with
  | nil => trivial
  | cons => exact h.2.2.2
theorem end_out {r : S44} {l : List S44} (h : Apart (r :: l)) (h2 : r.f2 = false) : (r :: l).any (hasR · (bs r.f1)) = false := by
  have hi := lt_irrefl' (bs r.f1)
  cases l with
  | nil => simp [hasR, h2, hi]
  | cons s l =>
    rw [List.any_cons, low_none l s _ h.2.2.1 h.2.2.2]
    simp [hasR, h2, hi]
theorem tail_out {r : S44} {l : List S44} {k : List UInt8} (h : Apart (r :: l)) (hk : hasR r k = true) : l.any (hasR · k) = false := by
  cases l with
  | nil => rfl
  | cons s l =>
    have h1 : k < bs r.f1 := by unfold hasR at hk; simp [h.2.1] at hk; exact hk.2
    exact low_none l s k (List.lt_trans h1 h.2.2.1) h.2.2.2
theorem apart_lo {r s : S44} {l m : List S44} (h : Apart (r :: l)) (h' : Apart (s :: m)) (he : ∀ k, (r :: l).any (hasR · k) = (s :: m).any (hasR · k)) : ¬ bs r.f0 < bs s.f0 := by
  intro hlt
  have h1 := he (bs r.f0)
  rw [low_none m s _ hlt h', List.any_cons, first_in (apart_head h)] at h1
  simp at h1
theorem apart_hi {r s : S44} {l m : List S44} (h : Apart (r :: l)) (h' : Apart (s :: m)) (e0 : r.f0 = s.f0) (he : ∀ k, (r :: l).any (hasR · k) = (s :: m).any (hasR · k)) (h2 : r.f2 = false) : s.f2 = false ∧ ¬ bs r.f1 < bs s.f1 := by
  have h1 := he (bs r.f1)
  rw [end_out h h2, List.any_cons] at h1
  have hn : hasR s (bs r.f1) = false := by
    cases e : hasR s (bs r.f1) with
    | false => rfl
    | true => rw [e] at h1; simp at h1
  have hr : bs r.f0 < bs r.f1 := by simpa [emptyR, h2] using apart_head h
  have hng : ¬ bs r.f1 < bs s.f0 := by rw [← e0]; exact fun g => lt_irrefl' _ (List.lt_trans hr g)
  unfold hasR at hn
  simp [hng] at hn
  exact hn
theorem clean_eq {r s : S44} (hr : cleanR r = r) (hs : cleanR s = s) (e0 : r.f0 = s.f0) (e2 : r.f2 = s.f2) (e1 : r.f2 = false → r.f1 = s.f1) : r = s := by
  cases h : r.f2 with
  | false =>
    have := e1 h
    cases r; cases s; simp_all
  | true =>
    have h' : s.f2 = true := e2 ▸ h
    rw [← hr, ← hs]
    unfold cleanR
    rw [if_pos h, if_pos h', e0]
theorem apart_one : ∀ (l m : List S44), Apart l → Apart m → (∀ x ∈ l, cleanR x = x) → (∀ x ∈ m, cleanR x = x) → (∀ k, l.any (hasR · k) = m.any (hasR · k)) → l = m
  | [], [], _, _, _, _, _ => rfl
  | [], s :: m, _, h, _, _, he => by
    have := he (bs s.f0)
    rw [List.any_cons, first_in (apart_head h)] at this
    simp at this
  | r :: l, [], h, _, _, _, he => by
    have := he (bs r.f0)
    rw [List.any_cons, first_in (apart_head h)] at this
    simp at this
  | r :: l, s :: m, h, h', hc, hc', he => by
    have e0 : r.f0 = s.f0 := by
      rcases lt_tri (bs r.f0) (bs s.f0) with g | g | g
      · exact absurd g (apart_lo h h' he)
      · exact bs_inj g
      · exact absurd g (apart_lo h' h (fun k => (he k).symm))
    have e2 : r.f2 = s.f2 := by
      cases g : r.f2 with
      | false => exact (apart_hi h h' e0 he g).1.symm
      | true =>
        cases g' : s.f2 with
        | true => rfl
        | false => rw [(apart_hi h' h e0.symm (fun k => (he k).symm) g').1] at g; cases g
    have e1 : r.f2 = false → r.f1 = s.f1 := by
      intro g
      rcases lt_tri (bs r.f1) (bs s.f1) with q | q | q
      · exact absurd q (apart_hi h h' e0 he g).2
      · exact bs_inj q
      · exact absurd q (apart_hi h' h e0.symm (fun k => (he k).symm) (e2 ▸ g)).2
    have e := clean_eq (hc r (by simp)) (hc' s (by simp)) e0 e2 e1
    subst e
    rw [apart_one l m (apart_tail h) (apart_tail h') (fun x hx => hc x (by simp [hx])) (fun x hx => hc' x (by simp [hx])) (fun k => ?_)]
    cases g : hasR r k with
    | true => rw [tail_out h g, tail_out h' g]
    | false =>
      have := he k
      rwa [List.any_cons, List.any_cons, g, Bool.false_or, Bool.false_or] at this
theorem clean_idem (r : S44) : cleanR (cleanR r) = cleanR r := by
  unfold cleanR
  cases h : r.f2 <;> simp [h]
theorem stepU_clean (out : List S44) (r : S44) (h : ∀ x ∈ out, cleanR x = x) : ∀ x ∈ stepU out r, cleanR x = x := by
  intro x hx
  rcases List.eq_nil_or_concat out with rfl | ⟨o, l, e0⟩
  · simp [stepU] at hx
    subst hx
    exact clean_idem r
  · rw [List.concat_eq_append] at e0
    subst e0
    unfold stepU at hx
    simp only [List.getLast?_concat, List.dropLast_concat] at hx
    split at hx
    · exact h x hx
    · split at hx
      · rcases List.mem_append.1 hx with g | g
        · exact h x g
        · simp at g; subst g; exact clean_idem r
      · split at hx
        · rcases List.mem_append.1 hx with g | g
          · exact h x (by simp [g])
          · simp at g; subst g; rfl
        · rcases List.mem_append.1 hx with g | g
          · exact h x (by simp [g])
          · simp at g; subst g; rfl
theorem foldU_clean : ∀ (l out : List S44), (∀ x ∈ out, cleanR x = x) → ∀ x ∈ l.foldl stepU out, cleanR x = x
  | [], out, h => h
  | r :: l, out, h => foldU_clean l (stepU out r) (stepU_clean out r h)
theorem unionR_ext {l m : List S44} (h : ∀ k, l.any (hasR · k) = m.any (hasR · k)) : unionR l = unionR m :=
  apart_one _ _ (unionR_apart l) (unionR_apart m) (foldU_clean _ _ (fun x hx => by cases hx)) (foldU_clean _ _ (fun x hx => by cases hx)) (fun k => by rw [unionR_has, unionR_has, h])
end Go.Proofs.YtldlenjfpjihdaaGreat.PU
namespace Go.Proofs.YtldlenjfpjihdaaGreat.PS
open Go.Proofs.YtldlenjfpjihdaaGreat.PU (unionR hasR unionR_has unionR_ext)
set_option linter.unusedSimpArgs false
set_option linter.unusedVariables false
theorem rangesAt_append (l m : List S46) (p : SPl) : rangesAt (l ++ m) p = rangesAt l p ++ rangesAt m p := by
  unfold rangesAt
  rw [List.filter_append, List.map_append]
theorem rangesAt_map (U : List S44) (q p : SPl) : rangesAt (U.map (fun r => (⟨q.f0, q.f1, r⟩ : S46))) p = if q = p then U else [] := by
  have e : ∀ r, atP (⟨q.f0, q.f1, r⟩ : S46) p = decide (q = p) := by
    intro r
    have := atP_iff (⟨q.f0, q.f1, r⟩ : S46) p
    by_cases h : q = p
    · rw [this.2 (by subst h; rfl)]; simp [h]
    · have hb : atP (⟨q.f0, q.f1, r⟩ : S46) p = false := by rw [← Bool.not_eq_true]; exact fun g => h (by rw [← this.1 g]; rfl)
      rw [hb]; simp [h]
  unfold rangesAt
  by_cases h : q = p
  · rw [if_pos h, List.filter_eq_self.2 (fun x hx => by obtain ⟨r, _, rfl⟩ := List.mem_map.1 hx; rw [e r]; simp [h])]
    simp [Function.comp_def]
  · rw [if_neg h, List.filter_eq_nil_iff.2 (fun x hx => by obtain ⟨r, _, rfl⟩ := List.mem_map.1 hx; rw [e r]; simp [h])]
    rfl
theorem rangesAt_flat (U : SPl → List S44) (p : SPl) : ∀ pl : List SPl, pl.Nodup → rangesAt (pl.flatMap fun q => (U q).map fun r => (⟨q.f0, q.f1, r⟩ : S46)) p = if p ∈ pl then U p else []
  | [], _ => by simp [rangesAt]
  | q :: pl, hn => by
    obtain ⟨h1, h2⟩ := List.nodup_cons.1 hn
    rw [List.flatMap_cons, rangesAt_append, rangesAt_map, rangesAt_flat U p pl h2]
    by_cases h : q = p
    · subst h
      rw [if_pos rfl, if_neg h1, if_pos (by simp), List.append_nil]
    · rw [if_neg h, List.nil_append]
      by_cases h3 : p ∈ pl
      · rw [if_pos h3, if_pos (by simp [h3])]
      · rw [if_neg h3, if_neg (by simp [h3, Ne.symm h])]
theorem rangesAt_none' {S : List S46} {p : SPl} (h : ¬ hasPl S p = true) : rangesAt S p = [] := by
  unfold rangesAt
  rw [List.filter_eq_nil_iff.2 (fun s hs g => h (List.any_eq_true.2 ⟨s, hs, g⟩))]
  rfl
theorem unionR_nil : unionR [] = [] := rfl
theorem ltL_nodup {pl : List SPl} (h : pl.Pairwise ltL) : pl.Nodup := h.imp (fun hab e => by subst e; exact ltL_irrefl _ hab)
theorem NormOf.at {f g : Ft} {pl : List SPl} (h : NormOf f g pl) (p : SPl) : rangesAt g.ss p = unionR (rangesAt f.ss p) := by
  rw [h.ss, rangesAt_flat _ p pl (ltL_nodup h.sp)]
  by_cases hp : p ∈ pl
  · rw [if_pos hp]
  · rw [if_neg hp, rangesAt_none' (fun g => hp ((h.mp p).2 g)), unionR_nil]
def Ft.app (f g : Ft) : Ft := ⟨f.ps ++ g.ps, f.ss ++ g.ss, f.ws ++ g.ws⟩
structure Eqv (f f' : Ft) : Prop where
  k : ∀ p k, (rangesAt f.ss p).any (hasR · k) = (rangesAt f'.ss p).any (hasR · k)
  p : ∀ x : S37, (rangesAt f.ss ⟨x.f0, x.f1⟩).any (hasR · (bs x.f2)) = false → (x ∈ f.ps ↔ x ∈ f'.ps)
  w : ∀ x, x ∈ f.ws ↔ x ∈ f'.ws
theorem Eqv.refl (f : Ft) : Eqv f f := ⟨fun _ _ => rfl, fun _ _ => Iff.rfl, fun _ => Iff.rfl⟩
theorem Eqv.symm {f g : Ft} (h : Eqv f g) : Eqv g f := ⟨fun p k => (h.k p k).symm, fun x hx => (h.p x (by rw [h.k]; exact hx)).symm, fun x => (h.w x).symm⟩
theorem Eqv.trans {f g i : Ft} (h : Eqv f g) (h' : Eqv g i) : Eqv f i := ⟨fun p k => (h.k p k).trans (h'.k p k), fun x hx => (h.p x hx).trans (h'.p x (by rw [← h.k]; exact hx)), fun x => (h.w x).trans (h'.w x)⟩
theorem Eqv.app {f f' g g' : Ft} (h : Eqv f f') (h' : Eqv g g') : Eqv (f.app g) (f'.app g') := by
  refine ⟨fun p k => ?_, fun x hx => ?_, fun x => ?_⟩
  · show (rangesAt (f.ss ++ g.ss) p).any _ = (rangesAt (f'.ss ++ g'.ss) p).any _
    rw [rangesAt_append, rangesAt_append, List.any_append, List.any_append, h.k, h'.k]
  · replace hx : (rangesAt (f.ss ++ g.ss) ⟨x.f0, x.f1⟩).any (hasR · (bs x.f2)) = false := hx
    rw [rangesAt_append, List.any_append, Bool.or_eq_false_iff] at hx
    show x ∈ f.ps ++ g.ps ↔ x ∈ f'.ps ++ g'.ps
    rw [List.mem_append, List.mem_append, h.p x hx.1, h'.p x hx.2]
  · show x ∈ f.ws ++ g.ws ↔ x ∈ f'.ws ++ g'.ws
    rw [List.mem_append, List.mem_append, h.w, h'.w]
theorem Eqv.comm (f g : Ft) : Eqv (f.app g) (g.app f) := by
  refine ⟨fun p k => ?_, fun x hx => ?_, fun x => ?_⟩
  · show (rangesAt (f.ss ++ g.ss) p).any _ = (rangesAt (g.ss ++ f.ss) p).any _
    rw [rangesAt_append, rangesAt_append, List.any_append, List.any_append, Bool.or_comm]
  · show x ∈ f.ps ++ g.ps ↔ x ∈ g.ps ++ f.ps
    rw [List.mem_append, List.mem_append, or_comm]
  · show x ∈ f.ws ++ g.ws ↔ x ∈ g.ws ++ f.ws
    rw [List.mem_append, List.mem_append, or_comm]
theorem flat_ne {α β : Type} (F : α → List β) : ∀ l : List α, l.flatMap F = (l.filter (fun x => !(F x).isEmpty)).flatMap F
  | [] => rfl
  | x :: l => by
    rw [List.flatMap_cons, List.filter_cons]
    cases h : F x with
    | nil => simp [h, ← flat_ne F l]
    | cons y r => simp [h, ← flat_ne F l]
theorem flat_one (F : SPl → List S46) {l m : List SPl} (hl : l.Pairwise ltL) (hm : m.Pairwise ltL) (h1 : ∀ p, p ∉ l → F p = []) (h2 : ∀ p, p ∉ m → F p = []) : l.flatMap F = m.flatMap F := by
  rw [flat_ne F l, flat_ne F m, strict_one ltL_irrefl (fun _ _ _ => ltL_trans) _ _ (hl.sublist List.filter_sublist) (hm.sublist List.filter_sublist) (fun x => ?_)]
  rw [List.mem_filter, List.mem_filter]
  constructor
  · rintro ⟨_, h⟩
    refine ⟨Decidable.byContradiction fun g => ?_, h⟩
    rw [h2 x g] at h; cases h
  · rintro ⟨_, h⟩
    refine ⟨Decidable.byContradiction fun g => ?_, h⟩
    rw [h1 x g] at h; cases h
theorem NormOf.canon {f f' g g' : Ft} {pl pl' : List SPl} (he : Eqv f f') (h : NormOf f g pl) (h' : NormOf f' g' pl') : g = g' := by
  have hU : ∀ p, unionR (rangesAt f.ss p) = unionR (rangesAt f'.ss p) := fun p => unionR_ext (he.k p)
  have e1 : g.ss = g'.ss := by
    rw [h.ss, h'.ss]
    have hF : (fun p : SPl => (unionR (rangesAt f'.ss p)).map (fun r => (⟨p.f0, p.f1, r⟩ : S46))) = fun p => (unionR (rangesAt f.ss p)).map (fun r => ⟨p.f0, p.f1, r⟩) := by funext p; rw [hU]
    rw [hF]
    refine flat_one _ h.sp h'.sp (fun p hp => ?_) (fun p hp => ?_)
    · rw [rangesAt_none' (fun g => hp ((h.mp p).2 g)), unionR_nil]; rfl
    · rw [hU, rangesAt_none' (fun g => hp ((h'.mp p).2 g)), unionR_nil]; rfl
  obtain ⟨q, hq, e2⟩ := h.ps
  obtain ⟨q', hq', e3⟩ := h'.ps
  have e4 : g.ps = g'.ps := by
    rw [e2, e3]
    refine strict_one ltP_irrefl (fun _ _ _ => ltP_trans) _ _ (hq.1.sublist List.filter_sublist) (hq'.1.sublist List.filter_sublist) (fun x => ?_)
    rw [List.mem_filter, List.mem_filter, hq.2.1, hq'.2.1, hU]
    refine and_congr_left fun hx => he.p x ?_
    rw [← unionR_has, hU]
    have hx' : (!((unionR (rangesAt f'.ss ⟨x.f0, x.f1⟩)).any (hasR · (bs x.f2)))) = true := hx
    simpa using hx'
  have e5 : g.ws = g'.ws := strict_one ltP_irrefl (fun _ _ _ => ltP_trans) _ _ h.ws.1 h'.ws.1 (fun x => ((h.ws.2.1 x).trans (he.w x)).trans (h'.ws.2.1 x).symm)
  cases g; cases g'
  simp_all
theorem spans_eq (S : List S46) (p : S37) : S.any (spanB p) = (rangesAt S ⟨p.f0, p.f1⟩).any (hasR · (bs p.f2)) := by
  unfold rangesAt
  rw [List.any_map, List.any_filter]
  rfl
theorem Eqv.reads {f g : Ft} (h : Eqv f g) (x : S37) : readsS f.ps f.ss x = readsS g.ps g.ss x := by
  unfold readsS
  rw [spans_eq, spans_eq, ← h.k]
  cases hk : (rangesAt f.ss ⟨x.f0, x.f1⟩).any (hasR · (bs x.f2)) with
  | true => rw [Bool.or_true, Bool.or_true]
  | false =>
    rw [Bool.or_false, Bool.or_false, Bool.eq_iff_iff, List.any_eq_true, List.any_eq_true]
    have e := h.p x hk
    constructor
    · rintro ⟨y, hy, hb⟩
      have := (eqP_iff x y).1 hb
      subst this
      exact ⟨_, e.1 hy, hb⟩
    · rintro ⟨y, hy, hb⟩
      have := (eqP_iff x y).1 hb
      subst this
      exact ⟨_, e.2 hy, hb⟩
theorem flat_congr {α β : Type} {F G : α → List β} : ∀ (l : List α), (∀ x ∈ l, F x = G x) → l.flatMap F = l.flatMap G
  | [], _ => rfl
  | x :: l, h => by rw [List.flatMap_cons, List.flatMap_cons, h x (by simp), flat_congr l (fun y hy => h y (by simp [hy]))]
theorem part_len (S : List S46) : ∀ (pl : List SPl), pl.Nodup → ∀ S' : List S46, (pl.flatMap (fun p => S'.filter (atP · p))).length ≤ S'.length
  | [], _, S' => Nat.zero_le _
  | q :: pl, hn, S' => by
    obtain ⟨h1, h2⟩ := List.nodup_cons.1 hn
    have ih := part_len S pl h2 (S'.filter (fun s => !atP s q))
    have e : pl.flatMap (fun p => (S'.filter (fun s => !atP s q)).filter (atP · p)) = pl.flatMap (fun p => S'.filter (atP · p)) := by
      refine flat_congr pl (fun p hp => ?_)
      rw [List.filter_filter]
      refine List.filter_congr fun s _ => ?_
      cases hs : atP s p with
      | false => rfl
      | true =>
        cases hq : atP s q with
        | false => rfl
        | true => exact absurd (((atP_iff s q).1 hq).symm.trans ((atP_iff s p).1 hs)) (fun e => h1 (e ▸ hp))
    rw [e] at ih
    have h3 : S'.length = (S'.filter (atP · q)).length + (S'.filter (fun s => !atP s q)).length := by
      have := List.length_eq_countP_add_countP (l := S') (atP · q)
      rw [List.countP_eq_length_filter, List.countP_eq_length_filter] at this
      simpa using this
    rw [List.flatMap_cons, List.length_append]
    omega
theorem flat_le {α β γ : Type} (F : α → List β) (G : α → List γ) : ∀ l : List α, (∀ x, (F x).length ≤ (G x).length) → (l.flatMap F).length ≤ (l.flatMap G).length
  | [], _ => Nat.le_refl _
  | x :: l, h => by
    rw [List.flatMap_cons, List.flatMap_cons, List.length_append, List.length_append]
    exact Nat.add_le_add (h x) (flat_le F G l h)
theorem NormOf.len {f g : Ft} {pl : List SPl} (h : NormOf f g pl) : g.len ≤ f.len := by
  obtain ⟨q, hq, e⟩ := h.ps
  have h1 : g.ps.length ≤ f.ps.length := by rw [e]; exact Nat.le_trans (List.length_filter_le _ _) hq.2.2
  have h2 := h.ws.2.2
  have h3 : g.ss.length ≤ f.ss.length := by
    rw [h.ss]
    refine Nat.le_trans (flat_le _ (fun p => f.ss.filter (atP · p)) pl (fun p => ?_)) (part_len f.ss pl (ltL_nodup h.sp) f.ss)
    rw [List.length_map]
    refine Nat.le_trans (unionR_len _) ?_
    unfold rangesAt
    rw [List.length_map]
    exact Nat.le_refl _
  unfold Ft.len
  omega
theorem NormOf.from_ {f g : Ft} {pl : List SPl} (h : NormOf f g pl) : (∀ x ∈ g.ps, x ∈ f.ps) ∧ (∀ x ∈ g.ss, ∃ y ∈ f.ss, plS y = plS x) ∧ (∀ x ∈ g.ws, x ∈ f.ws) := by
  obtain ⟨q, hq, e⟩ := h.ps
  refine ⟨fun x hx => ?_, fun x hx => ?_, fun x hx => (h.ws.2.1 x).1 hx⟩
  · rw [e] at hx
    exact (hq.2.1 x).1 (List.mem_filter.1 hx).1
  · rw [h.ss] at hx
    obtain ⟨p, hp, hx⟩ := List.mem_flatMap.1 hx
    obtain ⟨r, _, rfl⟩ := List.mem_map.1 hx
    obtain ⟨y, hy, hb⟩ := List.any_eq_true.1 ((h.mp p).1 hp)
    exact ⟨y, hy, (atP_iff y p).1 hb⟩
theorem NormOf.wfs {f g : Ft} {pl : List SPl} (h : NormOf f g pl) (hw : f.wfs) : g.wfs := by
  obtain ⟨h1, h2, h3⟩ := h.from_
  refine ⟨⟨fun x hx => hw.1.1 x (h1 x hx), fun x hx => hw.1.2 x (h3 x hx)⟩, fun x hx => ?_⟩
  obtain ⟨y, hy, e⟩ := h2 x hx
  rw [← e]
  exact hw.2 y hy
theorem nil_wfs : Ft.nil.wfs := by unfold Ft.wfs Ft.wf Ft.nil; simp
theorem NormR.wfs {f g : Ft} (h : NormR f g) (hw : f.wfs) : g.wfs := by
  rcases h with ⟨h0, pl, h⟩ | ⟨_, rfl⟩
  · exact h.wfs hw
  · exact nil_wfs
def mergeC (f g : Ft) : Int := if checkS f ≠ 0 then checkS f else if checkS g ≠ 0 then checkS g else if f.len + g.len > 65536 then 2 else 0
def MergeR (f g h : Ft) : Prop := (mergeC f g = 0 ∧ ∃ pl, NormOf (f.app g) h pl) ∨ (mergeC f g ≠ 0 ∧ h = Ft.nil)
theorem merge_ok {f g : Ft} (h : mergeC f g = 0) : checkS f = 0 ∧ checkS g = 0 ∧ f.len + g.len ≤ 65536 := by
  unfold mergeC at h
  by_cases h1 : checkS f ≠ 0
  · rw [if_pos h1] at h; exact absurd h h1
  · rw [if_neg h1] at h
    by_cases h2 : checkS g ≠ 0
    · rw [if_pos h2] at h; exact absurd h h2
    · rw [if_neg h2] at h
      by_cases h3 : f.len + g.len > 65536
      · rw [if_pos h3] at h; cases h
      · exact ⟨Decidable.byContradiction h1, Decidable.byContradiction h2, Nat.le_of_not_lt h3⟩
theorem merge_of {f g : Ft} (h0 : checkS f = 0) (h1 : checkS g = 0) (h2 : f.len + g.len ≤ 65536) : mergeC f g = 0 := by
  unfold mergeC
  rw [if_neg (by simp [h0]), if_neg (by simp [h1]), if_neg (by omega)]
theorem merge_comm {f g : Ft} (h : mergeC f g = 0) : mergeC g f = 0 := by
  obtain ⟨h0, h1, h2⟩ := merge_ok h
  exact merge_of h1 h0 (by omega)
theorem app_len {f g : Ft} (h : f.len + g.len ≤ 65536) : (f.app g).ps.length + (f.app g).ss.length + (f.app g).ws.length ≤ 65536 := by
  unfold Ft.app
  unfold Ft.len at h
  simp only [List.length_append]
  omega
theorem app_wfs {f g : Ft} (h : f.wfs) (h' : g.wfs) : (f.app g).wfs := by
  refine ⟨⟨fun x hx => ?_, fun x hx => ?_⟩, fun x hx => ?_⟩
  · rcases List.mem_append.1 hx with m | m
    · exact h.1.1 x m
    · exact h'.1.1 x m
  · rcases List.mem_append.1 hx with m | m
    · exact h.1.2 x m
    · exact h'.1.2 x m
  · rcases List.mem_append.1 hx with m | m
    · exact h.2 x m
    · exact h'.2 x m
theorem MergeR.one {f g h h' : Ft} (a : MergeR f g h) (b : MergeR f g h') : h = h' := by
  rcases a with ⟨h0, pl, a⟩ | ⟨h0, rfl⟩
  · rcases b with ⟨_, pl', b⟩ | ⟨h1, _⟩
    · exact a.one b
    · exact absurd h0 h1
  · rcases b with ⟨h1, _⟩ | ⟨_, rfl⟩
    · exact absurd h1 h0
    · rfl
theorem MergeR.small {f g h : Ft} (a : MergeR f g h) : h.small := by
  rcases a with ⟨h0, pl, a⟩ | ⟨_, rfl⟩
  · exact a.small (app_len (merge_ok h0).2.2)
  · exact ⟨by decide, by decide, by decide⟩
theorem MergeR.wfs {f g h : Ft} (a : MergeR f g h) (hf : f.wfs) (hg : g.wfs) : h.wfs := by
  rcases a with ⟨h0, pl, a⟩ | ⟨_, rfl⟩
  · exact a.wfs (app_wfs hf hg)
  · exact nil_wfs
theorem MergeR.comm {f g h h' : Ft} (a : MergeR f g h) (b : MergeR g f h') : mergeC f g = 0 → h = h' := by
  intro h0
  rcases a with ⟨_, pl, a⟩ | ⟨h1, _⟩
  · rcases b with ⟨_, pl', b⟩ | ⟨h1, _⟩
    · exact NormOf.canon (Eqv.comm f g) a b
    · exact absurd (merge_comm h0) h1
  · exact absurd h0 h1
end Go.Proofs.YtldlenjfpjihdaaGreat.PS
end
section
namespace Go.Proofs
open Go.Shelf
def Tryz.growP_ren : Go.Shelf.Ren := ⟨fun | 4 => 61 | n => n, fun | 22 => 22 | 25 => 37 | 3 => 3 | 4 => 4 | 9 => 9 | 20 => 20 | 0 => 0 | n => n, fun | n => n⟩
theorem Tryz.growP : Go.Proofs.Lays8.n4 Tryz.prog Tryz.growP_ren := {
  mixed := by kernel_rfl
  f4 := ⟨Tryz.f61.name, by decide, Tryz.func61.trans (congrArg some (by kernel_rfl))⟩
  t0 := Tryz.underlying0
  a0 := Tryz.isAgg0
  z0 := Tryz.sizeOf0
  v0 := Tryz.zeroValue0
  t3 := Tryz.underlying3
  a3 := Tryz.isAgg3
  z3 := Tryz.sizeOf3
  v3 := Tryz.zeroValue3
  t4 := Tryz.underlying4
  a4 := Tryz.isAgg4
  z4 := Tryz.sizeOf4
  v4 := Tryz.zeroValue4
  t9 := Tryz.underlying9
  a9 := Tryz.isAgg9
  z9 := Tryz.sizeOf9
  v9 := Tryz.zeroValue9
  t20 := Tryz.underlying20
  a20 := Tryz.isAgg20
  z20 := Tryz.sizeOf20
  v20 := Tryz.zeroValue20
  t22 := Tryz.underlying22
  a22 := Tryz.isAgg22
  z22 := Tryz.sizeOf22
  v22 := Tryz.zeroValue22 }
def Tryz.growS_ren : Go.Shelf.Ren := ⟨fun | 4 => 62 | n => n, fun | 22 => 23 | 25 => 46 | 3 => 3 | 4 => 4 | 9 => 9 | 20 => 20 | 0 => 0 | n => n, fun | n => n⟩
theorem Tryz.growS : Go.Proofs.Lays8.n4 Tryz.prog Tryz.growS_ren := {
  mixed := by kernel_rfl
  f4 := ⟨Tryz.f62.name, by decide, Tryz.func62.trans (congrArg some (by kernel_rfl))⟩
  t0 := Tryz.underlying0
  a0 := Tryz.isAgg0
  z0 := Tryz.sizeOf0
  v0 := Tryz.zeroValue0
  t3 := Tryz.underlying3
  a3 := Tryz.isAgg3
  z3 := Tryz.sizeOf3
  v3 := Tryz.zeroValue3
  t4 := Tryz.underlying4
  a4 := Tryz.isAgg4
  z4 := Tryz.sizeOf4
  v4 := Tryz.zeroValue4
  t9 := Tryz.underlying9
  a9 := Tryz.isAgg9
  z9 := Tryz.sizeOf9
  v9 := Tryz.zeroValue9
  t20 := Tryz.underlying20
  a20 := Tryz.isAgg20
  z20 := Tryz.sizeOf20
  v20 := Tryz.zeroValue20
  t22 := Tryz.underlying23
  a22 := Tryz.isAgg23
  z22 := Tryz.sizeOf23
  v22 := Tryz.zeroValue23 }
end Go.Proofs
end
section
namespace Go.Proofs.YtldlenjfpjihdaaGreat.PS
open Go Go.RowKit Go.Proofs Go.Shelf Go.Proofs.YtldlenjfpjihdaaGreatW.PrintWords Go.Proofs.YtldlenjfpjihdaaGreatW.PrintLast Go.Proofs.YtldlenjfpjihdaaGreatW.PrintMore
set_option linter.unusedVariables false
set_option linter.unusedSimpArgs false
theorem reps_app {α : Type} {R : α → List Value → Prop} {C : Nat} {xs ys : List α} {l m : List Value} (h : Reps R C xs l) (h' : Reps R C ys m) : Reps R C (xs ++ ys) (l ++ m) := by
  refine ⟨by rw [List.length_append, List.length_append, h.1, h'.1, Nat.add_mul], fun j p hj => ?_⟩
  by_cases hlt : j < xs.length
  · rw [List.getElem?_append_left hlt] at hj
    have := h.2 j p hj
    have hle : j * C + C ≤ l.length := by rw [h.1, ← Nat.succ_mul]; exact Nat.mul_le_mul_right C hlt
    rwa [List.drop_append_of_le_length (by omega), List.take_append_of_le_length (by rw [List.length_drop]; omega)]
  · rw [List.getElem?_append_right (by omega)] at hj
    have := h'.2 _ p hj
    have e : j * C = l.length + (j - xs.length) * C := by rw [h.1, ← Nat.add_mul]; congr 1; omega
    rw [e, List.drop_append, List.drop_eq_nil_of_le (by omega), List.nil_append, show l.length + (j - xs.length) * C - l.length = (j - xs.length) * C by omega]
    exact this
theorem run_app_none37 {w : World} {base : Nat} (ty c : Nat) (v : Value) (n : Nat) (xs : List Value) (hown : w.ownsRow base 37 3 v n xs) : (Builtin.append_ #[22, 22] ty #[v, .slice none 0 c]).run Tryz.prog w = .ok v w := by
  obtain ⟨i0, hi, hz0, hz1, hz2⟩ := info_parts info37U
  rcases hown.2 with ⟨rfl, rfl⟩ | ⟨g, cap, cur, rfl, _, _, hnc, _⟩
  · simp [Builtin.append_, run_underlying Tryz.underlying22, sizeOf, typeInfo, hi, Builtin.lenOf, Builtin.firstCells]
  · simp [Builtin.append_, run_underlying Tryz.underlying22, sizeOf, typeInfo, hi, Builtin.lenOf, Builtin.firstCells, hnc, storeCells]
theorem inner_one37 {w : World} {xs : List S37} {inner : List Value} (hrep : Reps (k37.K w) 3 xs inner) : ∀ u ∈ inner, u.oneCell' = true := by
  intro u hu
  obtain ⟨t, ht, e⟩ := List.getElem_of_mem hu
  have hlen := hrep.1
  have hk : t / 3 < xs.length := by omega
  have hK := k37_open (hrep.2 (t / 3) _ (List.getElem?_eq_getElem hk))
  have e1 : ((inner.drop (t / 3 * 3)).take 3)[t % 3]? = some u := by rw [List.getElem?_take, if_pos (by omega), List.getElem?_drop, show t / 3 * 3 + t % 3 = t by omega, List.getElem?_eq_getElem ht, e]
  rw [hK] at e1
  have h3 : t % 3 = 0 ∨ t % 3 = 1 ∨ t % 3 = 2 := by omega
  rcases h3 with q | q | q <;> rw [q] at e1 <;> (obtain rfl := Option.some.inj e1) <;> rfl
theorem cat37 {ops : Array Oper} {rest : List Oper} {o : Oper} {a : Act} {Q : Exit → Act → World → Prop} (w : World) (hgd : o.guard = none) (s x : Operand) (ho : o.op = .call { callee := .builtin .append, args := #[s, x], argTypes := #[22, 22] })
    (base : Nat) (v : Value) (zs xs : List S37) (A : Option Addr) (c : Nat) (hs : a.eval s = v) (hx : a.eval x = .slice A xs.length c) (HR : Kd.R k37 37 w base (fun _ => True) v zs) (HC : Kd.C k37 w A xs.length xs) (hl : (zs.length + xs.length) * 32 ≤ 140737488355328) (hbase : base ≤ w.heap.size)
    (h : ∀ v' w', Kd.R k37 37 w' base (fun _ => True) v' (zs ++ xs) → w.grownBy w' v.ownBlock → wpList Tryz.prog ops Q rest (a.put o.dst v') w') : wpList Tryz.prog ops Q (o :: rest) a w := by
  obtain ⟨h0, inner0, ⟨hln, hor⟩, hr0⟩ := id HR
  replace hr0 : Reps _ 3 zs inner0 := hr0
  have hown : w.ownsRow base 37 3 v zs.length inner0 := ⟨hln, hor⟩
  obtain ⟨i0, hi, hz0, hz1, hz2⟩ := info_parts info37U
  cases A with
  | none =>
    have hx0 : xs = [] := by
      cases hxs : xs with
      | nil => rfl
      | cons y r => obtain ⟨ad, e, _⟩ := HC.2.2 (by rw [hxs]; simp); cases e
    subst hx0
    rw [List.append_nil] at h
    refine wpList_plain hgd fun K hK => ?_
    have hrun := run_app_none37 (w := w) o.type c v _ _ hown
    unfold Oper.wp
    simp only [List.length_nil] at hx
    simp [execOp, ho, resolve, invoke, builtin, hs, hx, hrun, Result.andThen]
    exact hK _ _ (h v w HR ⟨rfl, rfl, rfl, Nat.le_refl _, fun _ _ _ => rfl⟩)
  | some ad =>
    obtain ⟨inner, hrep, hcells⟩ := ReadsRow.inner_ HC
    replace hrep : Reps (k37.K w) 3 xs inner := hrep
    refine wpList_append_own w hgd s x 22 ho base 37 i0 (.agg #[.int .i64 0, .int .i64 0, .string (⟨#[]⟩ : ByteArray)]) 3 32 Tryz.underlying22 hi hz0 hz1 hz2 rfl (by decide) v zs.length inner0 hs hown ad xs.length c inner hx hrep.1 hcells (inner_one37 hrep) (by unfold maxLen; omega) hl hbase ?_
    intro v' w' hown' hg hnil
    refine h v' w' ⟨fun _ _ => trivial, inner0 ++ inner, by rw [List.length_append]; exact hown', ?_⟩ hg
    exact reps_app (hr0.imp_ fun p cs hp => by rw [k37_openM hp]; exact k37_mkM _ _ _ p) (hrep.imp_ fun p cs hp => by rw [k37_open hp]; exact k37_mkM _ _ _ p)
theorem grow37 (n : Nat) (hn : n * 32 ≤ 140737488355328) (w : World) : Calls Tryz.prog 61 #[.slice none 0 0, .int .i64 n] w fun e w' => ∃ v, e = .returned v ∧ Kd.R k37 37 w' w.heap.size (fun _ => True) v [] ∧ Below w.heap.size w w' := by
  by_cases h : n = 0
  · subst h
    refine (Any8.slices_Grow_room Tryz.growP none 0 0 0 w (Nat.le_refl _) (by omega) (by omega) (Nat.le_refl _)).mono ?_
    rintro e w' ⟨rfl, rfl⟩
    exact ⟨_, rfl, Kd.R_nil k37 37 w' _ (fun _ => True), Below.refl _ _⟩
  · obtain ⟨i0, hi, hz0, hz1, hz2⟩ := info_parts info37U
    refine (Any8.slices_Grow_grow Tryz.growP i0 _ hi hz0 (by omega) none 0 0 n [] w (Nat.le_refl _) (by omega) (by rw [hz2]; omega) (by omega) (by simp) (fun _ => rfl) (fun a ha => by cases ha)).mono ?_
    rintro e w' ⟨rfl, rfl⟩
    have hb := below_alloc (below_drew1 (Below.refl w.heap.size w)) (.cells ([].toArray ++ Builtin.zeroCells (Value.agg #[.int .i64 0, .int .i64 0, .string (⟨#[]⟩ : ByteArray)]).cells (0 + n - 0) ++ Builtin.zeroCells (Value.agg #[.int .i64 0, .int .i64 0, .string (⟨#[]⟩ : ByteArray)]).cells (grownCap w (0 + n) 0 37 - (0 + n))) 37)
    have hge := grownCap_ge w (0 + n) 0 37
    have hle := grownCap_le_maxLen w (0 + n) 0 37 (by unfold maxLen; omega)
    refine ⟨_, rfl, ⟨fun _ _ => trivial, [], ⟨rfl, .inr ⟨w.heap.size, _, _, rfl, Nat.le_refl _, heap_new w.drew _, Nat.zero_le _, hle, ?_, rfl⟩⟩, ⟨rfl, fun j p hp => by simp at hp⟩⟩, hb⟩
    show (_ : Array Value).size = grownCap w (0 + n) 0 37 * 3
    simp only [Nat.zero_add] at hge ⊢
    simp [Builtin.zeroCells, Value.cells]
    show n * 3 + (grownCap w n 0 37 - n) * 3 = grownCap w n 0 37 * 3
    omega
set_option maxHeartbeats 4000000 in
set_option maxRecDepth 100000 in
theorem concat37 (xs ys : List S37) (A B : Option Addr) (c d : Nat) (g : Nat) (w : World) (hA : Kd.C k37 w A xs.length xs) (hB : Kd.C k37 w B ys.length ys) (hl : (xs.length + ys.length) * 32 ≤ 140737488351232)
    (hg : w.heap[g]? = some (.cells #[.slice A xs.length c, .slice B ys.length d] 22 (0, 0))) :
    Calls Tryz.prog 32 #[.slice (some ⟨g, 0, none⟩) 2 2] w fun e w' => ∃ v, e = .returned v ∧ Kd.R k37 37 w' w.heap.size (fun _ => True) v (xs ++ ys) ∧ Below w.heap.size w w' := by
  have p0 : w.cell? ⟨g, 0, none⟩ = some (.slice A xs.length c) := cell_of hg 0
  have p1 : w.cell? ⟨g, 1, none⟩ = some (.slice B ys.length d) := cell_of hg 1
  have hlt := lt_of hg
  obtain ⟨i0, hi, hz0, hz1, hz2⟩ := info_parts info37U
  have hgr := grow37 (xs.length + ys.length) (by omega) w
  rw [Int.natCast_add] at hgr
  have HGr := Aside0.mk hgr
  have HA := Aside0.mk hA
  have HB := Aside0.mk hB
  have HG := Aside0.mk hg
  have hn0 : (xs.length : Int) ≤ 4398046511103 := by omega
  have hn1 : (ys.length : Int) ≤ 4398046511103 := by omega
  have hn2 : (xs.length : Int) + (ys.length : Int) ≤ 4398046511103 := by omega
  have HL := Aside0.mk hl
  clear hgr hA hB hg hl
  go_enter Tryz.func32, Tryz.ntmps32
  go_wp2
  --@A
  go_loopg [3, 11] 2 (fun gg s3 s11 wr => ∃ k : Nat, s11 = .int .i64 k ∧ wr = w ∧ Aside0 (2 - k ≤ gg) ∧ ((k = 0 ∧ s3 = .int .i64 0) ∨ (k = 1 ∧ s3 = .int .i64 xs.length) ∨ (k = 2 ∧ s3 = .int .i64 ((xs.length : Int) + (ys.length : Int)))))
  case atStart => exact ⟨0, rfl, rfl, ⟨Nat.le_refl _⟩, .inl ⟨rfl, rfl⟩⟩
  case round =>
    obtain ⟨k, rfl, rfl, HM, ⟨rfl, rfl⟩ | ⟨rfl, rfl⟩ | ⟨rfl, rfl⟩⟩ := hrel
    · go_wp2
      go_roundg 1
      case measure => have := HM.out; omega
      case rel => exact ⟨1, by go_num, rfl, ⟨Nat.le_refl _⟩, .inr (.inl ⟨rfl, by go_num⟩)⟩
    · go_wp2
      go_roundg 0
      case measure => have := HM.out; omega
      case rel => exact ⟨2, by go_num, rfl, ⟨Nat.le_refl _⟩, .inr (.inr ⟨rfl, by go_num⟩)⟩
    · --@B
      obtain ⟨wq, hwq⟩ : ∃ x, x = wr := ⟨_, rfl⟩
      subst hwq
      go_wp2_with (go_at_call 61; refine HGr.out.mono ?_; rintro e w2 ⟨v, rfl, hR, hb⟩; have HR := Aside0.mk hR; have HB2 := Aside0.mk hb; have q0 := (hb.cell (World.block_lt_of_cell? _ _ p0)).trans p0; have q1 := (hb.cell (World.block_lt_of_cell? _ _ p1)).trans p1; clear hR hb)
      --@C
      go_loopg [6, 27] 2 (fun gg s6 s27 w3 => ∃ (k : Nat) (zs : List S37), s27 = .int .i64 k ∧ Aside0 (2 - k ≤ gg) ∧ ((k = 0 ∧ zs = []) ∨ (k = 1 ∧ zs = xs) ∨ (k = 2 ∧ zs = xs ++ ys)) ∧ Aside0 (Kd.R k37 37 w3 wq.heap.size (fun _ => True) s6 zs) ∧ Aside0 (Below wq.heap.size wq w3))
      case atStart => exact ⟨0, [], rfl, ⟨Nat.le_refl _⟩, .inl ⟨rfl, rfl⟩, HR, HB2⟩
      case round =>
        clear HR HB2 q0 q1
        obtain ⟨wq3, hw3⟩ : ∃ x, x = wr := ⟨_, rfl⟩
        subst hw3
        obtain ⟨k, zs, rfl, HM2, ⟨rfl, rfl⟩ | ⟨rfl, rfl⟩ | ⟨rfl, rfl⟩, HR, HB2⟩ := hrel
        · have q0 := (HB2.out.cell (World.block_lt_of_cell? _ _ p0)).trans p0
          --@D
          go_wp2_with ((with_reducible refine gate_builtin (b := .append) (xs := #[.tmp 31, .tmp 32]) rfl ?_); at_builtin; (refine cat37 wq3 rfl (.tmp 31) (.tmp 32) rfl wq.heap.size u6 [] xs A c rfl rfl HR.out (Kd.C_below HA.out HB2.out) (by have := HL.out; rw [List.length_nil]; omega) HB2.out.size ?_); intro v' w4 hR' hg'; have HR4 := Aside0.mk hR'; have HB4 := Aside0.mk (HB2.out.grown hg' HB2.out.size (fun k e => Kd.R_base HR.out k e)); clear hR' hg')
          go_roundg 1
          case measure => have := HM2.out; omega
          case rel => exact ⟨1, _, by go_num, ⟨Nat.le_refl _⟩, .inr (.inl ⟨rfl, rfl⟩), HR4, HB4⟩
        · have q1 := (HB2.out.cell (World.block_lt_of_cell? _ _ p1)).trans p1
          go_wp2_with ((with_reducible refine gate_builtin (b := .append) (xs := #[.tmp 31, .tmp 32]) rfl ?_); at_builtin; (refine cat37 wq3 rfl (.tmp 31) (.tmp 32) rfl wq.heap.size u6 zs ys B d rfl rfl HR.out (Kd.C_below HB.out HB2.out) (by have := HL.out; omega) HB2.out.size ?_); intro v' w4 hR' hg'; have HR4 := Aside0.mk hR'; have HB4 := Aside0.mk (HB2.out.grown hg' HB2.out.size (fun k e => Kd.R_base HR.out k e)); clear hR' hg')
          go_roundg 0
          case measure => have := HM2.out; omega
          case rel => exact ⟨2, _, by go_num, ⟨Nat.le_refl _⟩, .inr (.inr ⟨rfl, rfl⟩), HR4, HB4⟩
        · go_wp2
          go_ret
          exact ⟨_, rfl, HR.out, HB2.out⟩
theorem run_app_none46 {w : World} {base : Nat} (ty c : Nat) (v : Value) (n : Nat) (xs : List Value) (hown : w.ownsRow base 46 5 v n xs) : (Builtin.append_ #[23, 23] ty #[v, .slice none 0 c]).run Tryz.prog w = .ok v w := by
  obtain ⟨i0, hi, hz0, hz1, hz2⟩ := info_parts info46U
  rcases hown.2 with ⟨rfl, rfl⟩ | ⟨g, cap, cur, rfl, _, _, hnc, _⟩
  · simp [Builtin.append_, run_underlying Tryz.underlying23, sizeOf, typeInfo, hi, Builtin.lenOf, Builtin.firstCells]
  · simp [Builtin.append_, run_underlying Tryz.underlying23, sizeOf, typeInfo, hi, Builtin.lenOf, Builtin.firstCells, hnc, storeCells]
theorem inner_one46 {w : World} {xs : List S46} {inner : List Value} (hrep : Reps (k46.K w) 5 xs inner) : ∀ u ∈ inner, u.oneCell' = true := by
  intro u hu
  obtain ⟨t, ht, e⟩ := List.getElem_of_mem hu
  have hlen := hrep.1
  have hk : t / 5 < xs.length := by omega
  have hK := k46_open (hrep.2 (t / 5) _ (List.getElem?_eq_getElem hk))
  have e1 : ((inner.drop (t / 5 * 5)).take 5)[t % 5]? = some u := by rw [List.getElem?_take, if_pos (by omega), List.getElem?_drop, show t / 5 * 5 + t % 5 = t by omega, List.getElem?_eq_getElem ht, e]
  rw [hK] at e1
  have h3 : t % 5 = 0 ∨ t % 5 = 1 ∨ t % 5 = 2 ∨ t % 5 = 3 ∨ t % 5 = 4 := by omega
  rcases h3 with q | q | q | q | q <;> rw [q] at e1 <;> (obtain rfl := Option.some.inj e1) <;> rfl
theorem cat46 {ops : Array Oper} {rest : List Oper} {o : Oper} {a : Act} {Q : Exit → Act → World → Prop} (w : World) (hgd : o.guard = none) (s x : Operand) (ho : o.op = .call { callee := .builtin .append, args := #[s, x], argTypes := #[23, 23] })
    (base : Nat) (v : Value) (zs xs : List S46) (A : Option Addr) (c : Nat) (hs : a.eval s = v) (hx : a.eval x = .slice A xs.length c) (HR : Kd.R k46 46 w base (fun _ => True) v zs) (HC : Kd.C k46 w A xs.length xs) (hl : (zs.length + xs.length) * 56 ≤ 140737488355328) (hbase : base ≤ w.heap.size)
    (h : ∀ v' w', Kd.R k46 46 w' base (fun _ => True) v' (zs ++ xs) → w.grownBy w' v.ownBlock → wpList Tryz.prog ops Q rest (a.put o.dst v') w') : wpList Tryz.prog ops Q (o :: rest) a w := by
  obtain ⟨h0, inner0, ⟨hln, hor⟩, hr0⟩ := id HR
  replace hr0 : Reps _ 5 zs inner0 := hr0
  have hown : w.ownsRow base 46 5 v zs.length inner0 := ⟨hln, hor⟩
  obtain ⟨i0, hi, hz0, hz1, hz2⟩ := info_parts info46U
  cases A with
  | none =>
    have hx0 : xs = [] := by
      cases hxs : xs with
      | nil => rfl
      | cons y r => obtain ⟨ad, e, _⟩ := HC.2.2 (by rw [hxs]; simp); cases e
    subst hx0
    rw [List.append_nil] at h
    refine wpList_plain hgd fun K hK => ?_
    have hrun := run_app_none46 (w := w) o.type c v _ _ hown
    unfold Oper.wp
    simp only [List.length_nil] at hx
    simp [execOp, ho, resolve, invoke, builtin, hs, hx, hrun, Result.andThen]
    exact hK _ _ (h v w HR ⟨rfl, rfl, rfl, Nat.le_refl _, fun _ _ _ => rfl⟩)
  | some ad =>
    obtain ⟨inner, hrep, hcells⟩ := ReadsRow.inner_ HC
    replace hrep : Reps (k46.K w) 5 xs inner := hrep
    refine wpList_append_own w hgd s x 23 ho base 46 i0 (.agg #[(.int .i64 0), (.int .i64 0), (.string (⟨#[]⟩ : ByteArray)), (.string (⟨#[]⟩ : ByteArray)), (.bool false)]) 5 56 Tryz.underlying23 hi hz0 hz1 hz2 rfl (by decide) v zs.length inner0 hs hown ad xs.length c inner hx hrep.1 hcells (inner_one46 hrep) (by unfold maxLen; omega) hl hbase ?_
    intro v' w' hown' hg hnil
    refine h v' w' ⟨fun _ _ => trivial, inner0 ++ inner, by rw [List.length_append]; exact hown', ?_⟩ hg
    exact reps_app (hr0.imp_ fun p cs hp => by rw [k46_openM hp]; exact k46_mkM _ _ _ p) (hrep.imp_ fun p cs hp => by rw [k46_open hp]; exact k46_mkM _ _ _ p)
theorem grow46 (n : Nat) (hn : n * 56 ≤ 140737488355328) (w : World) : Calls Tryz.prog 62 #[.slice none 0 0, .int .i64 n] w fun e w' => ∃ v, e = .returned v ∧ Kd.R k46 46 w' w.heap.size (fun _ => True) v [] ∧ Below w.heap.size w w' := by
  by_cases h : n = 0
  · subst h
    refine (Any8.slices_Grow_room Tryz.growS none 0 0 0 w (Nat.le_refl _) (by omega) (by omega) (Nat.le_refl _)).mono ?_
    rintro e w' ⟨rfl, rfl⟩
    exact ⟨_, rfl, Kd.R_nil k46 46 w' _ (fun _ => True), Below.refl _ _⟩
  · obtain ⟨i0, hi, hz0, hz1, hz2⟩ := info_parts info46U
    refine (Any8.slices_Grow_grow Tryz.growS i0 _ hi hz0 (by omega) none 0 0 n [] w (Nat.le_refl _) (by omega) (by rw [hz2]; omega) (by omega) (by simp) (fun _ => rfl) (fun a ha => by cases ha)).mono ?_
    rintro e w' ⟨rfl, rfl⟩
    have hb := below_alloc (below_drew1 (Below.refl w.heap.size w)) (.cells ([].toArray ++ Builtin.zeroCells (Value.agg #[(.int .i64 0), (.int .i64 0), (.string (⟨#[]⟩ : ByteArray)), (.string (⟨#[]⟩ : ByteArray)), (.bool false)]).cells (0 + n - 0) ++ Builtin.zeroCells (Value.agg #[(.int .i64 0), (.int .i64 0), (.string (⟨#[]⟩ : ByteArray)), (.string (⟨#[]⟩ : ByteArray)), (.bool false)]).cells (grownCap w (0 + n) 0 46 - (0 + n))) 46)
    have hge := grownCap_ge w (0 + n) 0 46
    have hle := grownCap_le_maxLen w (0 + n) 0 46 (by unfold maxLen; omega)
    refine ⟨_, rfl, ⟨fun _ _ => trivial, [], ⟨rfl, .inr ⟨w.heap.size, _, _, rfl, Nat.le_refl _, heap_new w.drew _, Nat.zero_le _, hle, ?_, rfl⟩⟩, ⟨rfl, fun j p hp => by simp at hp⟩⟩, hb⟩
    show (_ : Array Value).size = grownCap w (0 + n) 0 46 * 5
    simp only [Nat.zero_add] at hge ⊢
    simp [Builtin.zeroCells, Value.cells]
    show n * 5 + (grownCap w n 0 46 - n) * 5 = grownCap w n 0 46 * 5
    omega
set_option maxHeartbeats 4000000 in
set_option maxRecDepth 100000 in
theorem concat46 (xs ys : List S46) (A B : Option Addr) (c d : Nat) (g : Nat) (w : World) (hA : Kd.C k46 w A xs.length xs) (hB : Kd.C k46 w B ys.length ys) (hl : (xs.length + ys.length) * 56 ≤ 140737488351232)
    (hg : w.heap[g]? = some (.cells #[.slice A xs.length c, .slice B ys.length d] 23 (0, 0))) :
    Calls Tryz.prog 33 #[.slice (some ⟨g, 0, none⟩) 2 2] w fun e w' => ∃ v, e = .returned v ∧ Kd.R k46 46 w' w.heap.size (fun _ => True) v (xs ++ ys) ∧ Below w.heap.size w w' := by
  have p0 : w.cell? ⟨g, 0, none⟩ = some (.slice A xs.length c) := cell_of hg 0
  have p1 : w.cell? ⟨g, 1, none⟩ = some (.slice B ys.length d) := cell_of hg 1
  have hlt := lt_of hg
  obtain ⟨i0, hi, hz0, hz1, hz2⟩ := info_parts info46U
  have hgr := grow46 (xs.length + ys.length) (by omega) w
  rw [Int.natCast_add] at hgr
  have HGr := Aside0.mk hgr
  have HA := Aside0.mk hA
  have HB := Aside0.mk hB
  have HG := Aside0.mk hg
  have hn0 : (xs.length : Int) ≤ 4398046511103 := by omega
  have hn1 : (ys.length : Int) ≤ 4398046511103 := by omega
  have hn2 : (xs.length : Int) + (ys.length : Int) ≤ 4398046511103 := by omega
  have HL := Aside0.mk hl
  clear hgr hA hB hg hl
  go_enter Tryz.func33, Tryz.ntmps33
  go_wp2
  --@A
  go_loopg [3, 11] 2 (fun gg s3 s11 wr => ∃ k : Nat, s11 = .int .i64 k ∧ wr = w ∧ Aside0 (2 - k ≤ gg) ∧ ((k = 0 ∧ s3 = .int .i64 0) ∨ (k = 1 ∧ s3 = .int .i64 xs.length) ∨ (k = 2 ∧ s3 = .int .i64 ((xs.length : Int) + (ys.length : Int)))))
  case atStart => exact ⟨0, rfl, rfl, ⟨Nat.le_refl _⟩, .inl ⟨rfl, rfl⟩⟩
  case round =>
    obtain ⟨k, rfl, rfl, HM, ⟨rfl, rfl⟩ | ⟨rfl, rfl⟩ | ⟨rfl, rfl⟩⟩ := hrel
    · go_wp2
      go_roundg 1
      case measure => have := HM.out; omega
      case rel => exact ⟨1, by go_num, rfl, ⟨Nat.le_refl _⟩, .inr (.inl ⟨rfl, by go_num⟩)⟩
    · go_wp2
      go_roundg 0
      case measure => have := HM.out; omega
      case rel => exact ⟨2, by go_num, rfl, ⟨Nat.le_refl _⟩, .inr (.inr ⟨rfl, by go_num⟩)⟩
    · --@B
      obtain ⟨wq, hwq⟩ : ∃ x, x = wr := ⟨_, rfl⟩
      subst hwq
      go_wp2_with (go_at_call 62; refine HGr.out.mono ?_; rintro e w2 ⟨v, rfl, hR, hb⟩; have HR := Aside0.mk hR; have HB2 := Aside0.mk hb; have q0 := (hb.cell (World.block_lt_of_cell? _ _ p0)).trans p0; have q1 := (hb.cell (World.block_lt_of_cell? _ _ p1)).trans p1; clear hR hb)
      --@C
      go_loopg [6, 27] 2 (fun gg s6 s27 w3 => ∃ (k : Nat) (zs : List S46), s27 = .int .i64 k ∧ Aside0 (2 - k ≤ gg) ∧ ((k = 0 ∧ zs = []) ∨ (k = 1 ∧ zs = xs) ∨ (k = 2 ∧ zs = xs ++ ys)) ∧ Aside0 (Kd.R k46 46 w3 wq.heap.size (fun _ => True) s6 zs) ∧ Aside0 (Below wq.heap.size wq w3))
      case atStart => exact ⟨0, [], rfl, ⟨Nat.le_refl _⟩, .inl ⟨rfl, rfl⟩, HR, HB2⟩
      case round =>
        clear HR HB2 q0 q1
        obtain ⟨wq3, hw3⟩ : ∃ x, x = wr := ⟨_, rfl⟩
        subst hw3
        obtain ⟨k, zs, rfl, HM2, ⟨rfl, rfl⟩ | ⟨rfl, rfl⟩ | ⟨rfl, rfl⟩, HR, HB2⟩ := hrel
        · have q0 := (HB2.out.cell (World.block_lt_of_cell? _ _ p0)).trans p0
          --@D
          go_wp2_with ((with_reducible refine gate_builtin (b := .append) (xs := #[.tmp 31, .tmp 32]) rfl ?_); at_builtin; (refine cat46 wq3 rfl (.tmp 31) (.tmp 32) rfl wq.heap.size u6 [] xs A c rfl rfl HR.out (Kd.C_below HA.out HB2.out) (by have := HL.out; rw [List.length_nil]; omega) HB2.out.size ?_); intro v' w4 hR' hg'; have HR4 := Aside0.mk hR'; have HB4 := Aside0.mk (HB2.out.grown hg' HB2.out.size (fun k e => Kd.R_base HR.out k e)); clear hR' hg')
          go_roundg 1
          case measure => have := HM2.out; omega
          case rel => exact ⟨1, _, by go_num, ⟨Nat.le_refl _⟩, .inr (.inl ⟨rfl, rfl⟩), HR4, HB4⟩
        · have q1 := (HB2.out.cell (World.block_lt_of_cell? _ _ p1)).trans p1
          go_wp2_with ((with_reducible refine gate_builtin (b := .append) (xs := #[.tmp 31, .tmp 32]) rfl ?_); at_builtin; (refine cat46 wq3 rfl (.tmp 31) (.tmp 32) rfl wq.heap.size u6 zs ys B d rfl rfl HR.out (Kd.C_below HB.out HB2.out) (by have := HL.out; omega) HB2.out.size ?_); intro v' w4 hR' hg'; have HR4 := Aside0.mk hR'; have HB4 := Aside0.mk (HB2.out.grown hg' HB2.out.size (fun k e => Kd.R_base HR.out k e)); clear hR' hg')
          go_roundg 0
          case measure => have := HM2.out; omega
          case rel => exact ⟨2, _, by go_num, ⟨Nat.le_refl _⟩, .inr (.inr ⟨rfl, rfl⟩), HR4, HB4⟩
        · go_wp2
          go_ret
          exact ⟨_, rfl, HR.out, HB2.out⟩
end Go.Proofs.YtldlenjfpjihdaaGreat.PS
end
section
namespace Go.Proofs.YtldlenjfpjihdaaGreat.PS
open Go Go.RowKit Go.Proofs Go.Maps Go.WideMaps Go.Proofs.YtldlenjfpjihdaaGreatW.PrintWords Go.Proofs.YtldlenjfpjihdaaGreatW.PrintLast Go.Proofs.YtldlenjfpjihdaaGreatW.PrintMore
set_option linter.unusedVariables false
set_option linter.unusedSimpArgs false
theorem six {w1 wn : World} {b c : Nat} {x0 x1 x2 y0 y1 y2 : Value} {t u : Nat} (hb : Below w1.heap.size w1 wn) (D : w1.heap[b]? = some (.cells #[x0, x1, x2] t (0, 0))) (E : w1.heap[c]? = some (.cells #[y0, y1, y2] u (0, 0))) :
    wn.cell? ⟨b, 0, none⟩ = some x0 ∧ wn.cell? ⟨b, 1, none⟩ = some x1 ∧ wn.cell? ⟨b, 2, none⟩ = some x2 ∧ wn.cell? ⟨c, 0, none⟩ = some y0 ∧ wn.cell? ⟨c, 1, none⟩ = some y1 ∧ wn.cell? ⟨c, 2, none⟩ = some y2 := by
  have h := (hb.block _ (lt_of D)).trans D
  have h' := (hb.block _ (lt_of E)).trans E
  exact ⟨cell_of h 0, cell_of h 1, cell_of h 2, cell_of h' 0, cell_of h' 1, cell_of h' 2⟩
theorem sixB {w1 wn : World} {b c n : Nat} {x0 x1 x2 y0 y1 y2 : Value} {t u : Nat} (hb : Below n w1 wn) (D : w1.heap[b]? = some (.cells #[x0, x1, x2] t (0, 0))) (E : w1.heap[c]? = some (.cells #[y0, y1, y2] u (0, 0))) (hbn : b < n) (hcn : c < n) :
    wn.cell? ⟨b, 0, none⟩ = some x0 ∧ wn.cell? ⟨b, 1, none⟩ = some x1 ∧ wn.cell? ⟨b, 2, none⟩ = some x2 ∧ wn.cell? ⟨c, 0, none⟩ = some y0 ∧ wn.cell? ⟨c, 1, none⟩ = some y1 ∧ wn.cell? ⟨c, 2, none⟩ = some y2 := by
  have h := (hb.block _ hbn).trans D
  have h' := (hb.block _ hcn).trans E
  exact ⟨cell_of h 0, cell_of h 1, cell_of h 2, cell_of h' 0, cell_of h' 1, cell_of h' 2⟩
theorem C_errs {W : World} {g : Nat} {l : List Int} (h : W.heap[g]? = some (.cells (l.map (Value.int .i64)).toArray 26 (0, 0))) (hl : l.length ≤ 9223372036854775807 := by simp) : Kd.C (Kd.int .i64) W (some ⟨g, 0, none⟩) l.length l := by
  refine ⟨rfl, hl, fun _ => ⟨_, rfl, fun j p hp => ⟨[.int .i64 p], rfl, rfl, fun i u hu => ?_⟩⟩⟩
  have hi : i = 0 := by
    have := (List.getElem?_eq_some_iff.1 hu).1
    simpa using this
  subst hi
  obtain rfl : Value.int .i64 p = u := by simpa using hu
  have e : (⟨g, 0, none⟩ : Addr).add (j * (Kd.int .i64).sz + 0) = ⟨g, j, none⟩ := by
    show (⟨g, 0, none⟩ : Addr).add (j * 1 + 0) = _
    unfold Addr.add
    split <;> simp_all
  rw [e]
  refine (cell_of h j).trans ?_
  simp [hp]
theorem orE_ev (a b : Int) : Ev (fun k => api_Errno.f k [a, b]) (if a = 0 then b else a) := by
  refine Ev.from_ 3 (fun k => ?_)
  have e1 : wrap64 (0 + 1) = 1 := wrap64_id (by decide) (by decide)
  have e2 : wrap64 (1 + 1) = 2 := wrap64_id (by decide) (by decide)
  have r0 : rd [a, b] 0 = a := rfl
  have r1 : rd [a, b] 1 = b := rfl
  unfold api_Errno.f
  have hl : (([a, b] : List Int).length : Int) = 2 := rfl
  rw [hl, api_Errno.l0, r0, e1, api_Errno.l0, r1, e2, api_Errno.l0, hl]
  by_cases ha : a = 0
  · by_cases hb : b = 0 <;> simp [ha, hb]
  · simp [ha]
theorem merge_err {f g : Ft} : mergeC f g = (if (if checkS f = 0 then checkS g else checkS f) = 0 then (if f.len + g.len > 65536 then 2 else 0) else (if checkS f = 0 then checkS g else checkS f)) := by
  unfold mergeC
  by_cases h : checkS f = 0 <;> by_cases h' : checkS g = 0 <;> simp [h, h']
theorem sizeV {w : World} {v : Value} {f : Ft} (h : FtV w v f) (hs : f.small) : Calls Tryz.prog 25 #[v] w fun e w' => e = .returned (.int .i64 (f.len : Int)) ∧ Below w.heap.size w w' := by
  obtain ⟨A0, A1, A2, c0, c1, c2, rfl, h⟩ := h
  exact (sets_size.calls A0 c0 f.ps A1 c1 f.ss A2 c2 f.ws _ w h.h0 h.l0 h.h1 h.l1 h.h2 h.l2 (size_ev f hs)).mono fun e w' h => ⟨h.1, h.2⟩
def T14_1 : Bool × List (List Nat × List Nat) := (true, [([], []), ([0], [0]), ([], []), ([2, 1], [2]), ([1, 3], [1, 3]), ([4, 3], [4]), ([5, 5, 0, 1, 2, 3, 4, 5], [5])])
theorem tab14_1 : rtab .any (opsOf Tryz.f14 1) = T14_1 := by kernel_rfl
def T14_4 : Bool × List (List Nat × List Nat) := (true, [([], []), ([0], [0]), ([], []), ([2, 1], [2]), ([1, 3], [1, 3]), ([4], [4])])
theorem tab14_4 : rtab .any (opsOf Tryz.f14 4) = T14_4 := by kernel_rfl
def T14_6 : Bool × List (List Nat × List Nat) := (true, [([], []), ([0], [0]), ([], []), ([2], [2]), ([1, 3], [1, 3]), ([4], [4]), ([], []), ([6], [6]), ([], []), ([8], [8]), ([7, 9], [7, 9]), ([10, 5], [10]), ([], []), ([12], [12]), ([], []), ([14], [14]), ([13, 15], [13, 15]), ([16, 11], [16]), ([5, 11, 17], [5, 11, 17]), ([18, 17], [18]), ([19, 19, 0, 1, 2, 3, 4, 5, 6, 7, 8, 9, 10, 11, 12, 13, 14, 15, 16, 17, 18, 19], [19]), ([20, 0, 1, 2, 3, 4, 5, 6, 7, 8, 9, 10, 11, 12, 13, 14, 15, 16, 17, 18, 19, 20], [])])
theorem tab14_6 : rtab .any (opsOf Tryz.f14 6) = T14_6 := by kernel_rfl
def Xb (w : World) (x s0 s1 : Value) (t : Nat) : Prop := ∃ bx, x = .slice (some ⟨bx, 0, none⟩) 2 2 ∧ w.heap[bx]? = some (.cells #[s0, s1] t (0, 0))
theorem Xb.keep {w w' : World} {x s0 s1 : Value} {t : Nat} (h : Xb w x s0 s1 t) (hb : Below w.heap.size w w') : Xb w' x s0 s1 t := by
  obtain ⟨bx, e, h⟩ := h
  exact ⟨bx, e, (hb.block _ (lt_of h)).trans h⟩
def Rb {α : Type} (d : Kd α) (e : Nat) (w : World) (b : Nat) (v : Value) (n : Nat) (xs : List α) : Prop := ∃ C c, v = .slice C n c ∧ Kd.R d e w b (fun _ => True) v xs
theorem Rb.keep {α : Type} {d : Kd α} {e : Nat} {w w' : World} {b n : Nat} {v : Value} {xs : List α} (h : Rb d e w b v n xs) (hb : Below w.heap.size w w') : Rb d e w' b v n xs := by
  obtain ⟨C, c, rfl, h⟩ := h
  exact ⟨C, c, rfl, Kd.R_below h hb⟩
theorem cat_at0 {fp gp fw gw : List S37} {fs gs : List S46} {m0 m1 m2 n0 n1 n2 lf lg : Nat} {w1 w2 : World} {A B : Option Addr} {a b bx : Nat} (hm : (m0 = fp.length ∧ m1 = fs.length ∧ m2 = fw.length) ∧ n0 = gp.length ∧ n1 = gs.length ∧ n2 = gw.length) (hlen : lf = m0 + m1 + m2 ∧ lg = n0 + n1 + n2) (hl : lf + lg ≤ 65536) (hc : Below w1.heap.size w1 w2)
    (hA : Kd.C k37 w2 A m0 fp) (hB : Kd.C k37 w2 B n0 gp) (hx : w2.heap[bx]? = some (.cells #[.slice A m0 a, .slice B n0 b] 22 (0, 0))) :
    Calls Tryz.prog 32 #[.slice (some ⟨bx, 0, none⟩) 2 2] w2 fun e w' => ∃ v, e = .returned v ∧ Rb k37 37 w' w1.heap.size v (m0 + n0) (fp ++ gp) ∧ Below w2.heap.size w2 w' := by
  obtain ⟨⟨rfl, rfl, rfl⟩, rfl, rfl, rfl⟩ := hm
  refine (concat37 fp gp A B a b bx w2 hA hB (by omega) hx).mono ?_
  rintro e w' ⟨v, rfl, hR, hb⟩
  obtain ⟨C, c, rfl⟩ := Kd.R_slice hR
  exact ⟨_, rfl, ⟨C, c, by rw [List.length_append], Kd.R_lower hR hc.size⟩, hb⟩
theorem cat_at1 {fp gp fw gw : List S37} {fs gs : List S46} {m0 m1 m2 n0 n1 n2 lf lg : Nat} {w1 w2 : World} {A B : Option Addr} {a b bx : Nat} (hm : (m0 = fp.length ∧ m1 = fs.length ∧ m2 = fw.length) ∧ n0 = gp.length ∧ n1 = gs.length ∧ n2 = gw.length) (hlen : lf = m0 + m1 + m2 ∧ lg = n0 + n1 + n2) (hl : lf + lg ≤ 65536) (hc : Below w1.heap.size w1 w2)
    (hA : Kd.C k46 w2 A m1 fs) (hB : Kd.C k46 w2 B n1 gs) (hx : w2.heap[bx]? = some (.cells #[.slice A m1 a, .slice B n1 b] 23 (0, 0))) :
    Calls Tryz.prog 33 #[.slice (some ⟨bx, 0, none⟩) 2 2] w2 fun e w' => ∃ v, e = .returned v ∧ Rb k46 46 w' w1.heap.size v (m1 + n1) (fs ++ gs) ∧ Below w2.heap.size w2 w' := by
  obtain ⟨⟨rfl, rfl, rfl⟩, rfl, rfl, rfl⟩ := hm
  refine (concat46 fs gs A B a b bx w2 hA hB (by omega) hx).mono ?_
  rintro e w' ⟨v, rfl, hR, hb⟩
  obtain ⟨C, c, rfl⟩ := Kd.R_slice hR
  exact ⟨_, rfl, ⟨C, c, by rw [List.length_append], Kd.R_lower hR hc.size⟩, hb⟩
theorem cat_at2 {fp gp fw gw : List S37} {fs gs : List S46} {m0 m1 m2 n0 n1 n2 lf lg : Nat} {w1 w2 : World} {A B : Option Addr} {a b bx : Nat} (hm : (m0 = fp.length ∧ m1 = fs.length ∧ m2 = fw.length) ∧ n0 = gp.length ∧ n1 = gs.length ∧ n2 = gw.length) (hlen : lf = m0 + m1 + m2 ∧ lg = n0 + n1 + n2) (hl : lf + lg ≤ 65536) (hc : Below w1.heap.size w1 w2)
    (hA : Kd.C k37 w2 A m2 fw) (hB : Kd.C k37 w2 B n2 gw) (hx : w2.heap[bx]? = some (.cells #[.slice A m2 a, .slice B n2 b] 22 (0, 0))) :
    Calls Tryz.prog 32 #[.slice (some ⟨bx, 0, none⟩) 2 2] w2 fun e w' => ∃ v, e = .returned v ∧ Rb k37 37 w' w1.heap.size v (m2 + n2) (fw ++ gw) ∧ Below w2.heap.size w2 w' := by
  obtain ⟨⟨rfl, rfl, rfl⟩, rfl, rfl, rfl⟩ := hm
  refine (concat37 fw gw A B a b bx w2 hA hB (by omega) hx).mono ?_
  rintro e w' ⟨v, rfl, hR, hb⟩
  obtain ⟨C, c, rfl⟩ := Kd.R_slice hR
  exact ⟨_, rfl, ⟨C, c, by rw [List.length_append], Kd.R_lower hR hc.size⟩, hb⟩
set_option maxHeartbeats 16000000 in
set_option maxRecDepth 100000 in
theorem merge_reg {f g : Ft} {fp gp fw gw : List S37} {fs gs : List S46} {m0 m1 m2 n0 n1 n2 lf lg a0 a1 a2 b0 b1 b2 : Nat} {A0 A1 A2 B0 B1 B2 : Option Addr} {w w1 w9 : World} {Q : Exit → Act → World → Prop} {t0 t1 t2 t3 t4 t5 t6 t7 t8 t9 t10 t11 t12 t13 t14 t15 t16 t17 t18 t19 t20 t21 t22 t23 t24 t25 t26 t27 t28 t29 t30 t31 t32 t33 t34 t35 t36 t37 t38 t39 t40 t41 t42 t43 : Value} {ds : List Deferred}
    (hm : (m0 = fp.length ∧ m1 = fs.length ∧ m2 = fw.length) ∧ n0 = gp.length ∧ n1 = gs.length ∧ n2 = gw.length) (hlen : lf = m0 + m1 + m2 ∧ lg = n0 + n1 + n2) (hl : lf + lg ≤ 65536)
    (HNO : ∀ (W : World) (C0 C1 C2 : Option Addr) (c0 c1 c2 : Nat), lf + lg ≤ 65536 → Kd.R k37 37 W w1.heap.size (fun _ => True) (.slice C0 (m0 + n0) c0) (fp ++ gp) → Kd.R k46 46 W w1.heap.size (fun _ => True) (.slice C1 (m1 + n1) c1) (fs ++ gs) → Kd.R k37 37 W w1.heap.size (fun _ => True) (.slice C2 (m2 + n2) c2) (fw ++ gw) →
      Calls Tryz.prog 20 #[.agg #[.slice C0 (m0 + n0) c0, .slice C1 (m1 + n1) c1, .slice C2 (m2 + n2) c2]] W fun e w' => ∃ (h : Ft) (pl : List SPl) (v v0 v1 v2 : Value), e = .returned v ∧ NormOf (f.app g) h pl ∧ FtO w' W.heap.size v h v0 v1 v2 ∧ Below W.heap.size W w')
    (HF0 : ∀ W, Below w1.heap.size w1 W → Kd.C k37 W A0 m0 fp) (HF1 : ∀ W, Below w1.heap.size w1 W → Kd.C k46 W A1 m1 fs) (HF2 : ∀ W, Below w1.heap.size w1 W → Kd.C k37 W A2 m2 fw) (HG0 : ∀ W, Below w1.heap.size w1 W → Kd.C k37 W B0 n0 gp) (HG1 : ∀ W, Below w1.heap.size w1 W → Kd.C k46 W B1 n1 gs) (HG2 : ∀ W, Below w1.heap.size w1 W → Kd.C k37 W B2 n2 gw)
    (D0 : w1.heap[w.heap.size]? = some (.cells #[.slice A0 m0 a0, .slice A1 m1 a1, .slice A2 m2 a2] 25 (0, 0))) (D1 : w1.heap[w.heap.size + 1]? = some (.cells #[.slice B0 n0 b0, .slice B1 n1 b1, .slice B2 n2 b2] 25 (0, 0))) (D2 : w1.heap[w.heap.size + 1 + 1]? = some (.cells #[.slice none 0 0, .slice none 0 0, .slice none 0 0] 25 (0, 0))) (hc9 : Below w1.heap.size w1 w9)
    (hQp : ∀ c a d v w, Q (.panic c) (Act.put a d v) w → Q (.panic c) a w)
    (hEnd : ∀ (w10 : World) (h : Ft) (pl : List SPl) (C0 C1 C2 : Option Addr) (c0 c1 c2 : Nat) (x24 x25 x26 x27 x28 x29 x30 x31 x32 x33 x34 x35 x36 x37 x38 x39 x40 x41 x42 x43 : Value), NormOf (f.app g) h pl → FtO w10 w1.heap.size (.agg #[.slice C0 h.ps.length c0, .slice C1 h.ss.length c1, .slice C2 h.ws.length c2]) h (.slice C0 h.ps.length c0) (.slice C1 h.ss.length c1) (.slice C2 h.ws.length c2) → Below w.heap.size w1 w10 → w10.heap[w.heap.size + 1 + 1]? = some (.cells #[.slice C0 h.ps.length c0, .slice C1 h.ss.length c1, .slice C2 h.ws.length c2] 25 (0, 0)) → Q .normal ⟨#[t0, t1, .pointer (some ⟨w.heap.size, 0, none⟩), .pointer (some ⟨w.heap.size + 1, 0, none⟩), .pointer (some ⟨w.heap.size + 1 + 1, 0, none⟩), .int .i64 0, t6, t7, t8, t9, t10, t11, t12, t13, t14, t15, t16, t17, t18, t19, t20, t21, t22, t23, x24, x25, x26, x27, x28, x29, x30, x31, x32, x33, x34, x35, x36, x37, x38, x39, x40, x41, x42, x43], ds⟩ w10) :
    (Code.region 6 (opsOf Tryz.f14 6) true).wp Tryz.prog Q ⟨#[t0, t1, .pointer (some ⟨w.heap.size, 0, none⟩), .pointer (some ⟨w.heap.size + 1, 0, none⟩), .pointer (some ⟨w.heap.size + 1 + 1, 0, none⟩), t5, t6, t7, t8, t9, t10, t11, t12, t13, t14, t15, t16, t17, t18, t19, t20, t21, t22, t23, t24, t25, t26, t27, t28, t29, t30, t31, t32, t33, t34, t35, t36, t37, t38, t39, t40, t41, t42, t43], ds⟩ w9 := by
  obtain ⟨M, hM⟩ : ∃ M : Value → Value → Value → Value → Value → Value → Act, M = fun x28 x29 x34 x35 x40 x41 => ⟨#[t0, t1, .pointer (some ⟨w.heap.size, 0, none⟩), .pointer (some ⟨w.heap.size + 1, 0, none⟩), .pointer (some ⟨w.heap.size + 1 + 1, 0, none⟩), t5, t6, t7, t8, t9, t10, t11, t12, t13, t14, t15, t16, t17, t18, t19, t20, t21, t22, t23, .pointer (some ⟨w.heap.size, 0, none⟩), .slice A0 m0 a0, .pointer (some ⟨w.heap.size + 1, 0, none⟩), .slice B0 n0 b0, x28, x29, .pointer (some ⟨w.heap.size, 1, none⟩), .slice A1 m1 a1, .pointer (some ⟨w.heap.size + 1, 1, none⟩), .slice B1 n1 b1, x34, x35, .pointer (some ⟨w.heap.size, 2, none⟩), .slice A2 m2 a2, .pointer (some ⟨w.heap.size + 1, 2, none⟩), .slice B2 n2 b2, x40, x41, t42, t43], ds⟩ := ⟨_, rfl⟩
  obtain ⟨ops, hops⟩ : ∃ ops, opsOf Tryz.f14 6 = ops := ⟨_, rfl⟩
  rw [hops]
  simp [opsOf, opsIn, Tryz.f14] at hops
  have HM := Aside0.mk hm
  have HLen := Aside0.mk hlen
  clear hm hlen
  have hlt := lt_of D2
  have hS : ∀ W, Below w1.heap.size w1 W → Below (w.heap.size + 1 + 1) w1 W := fun W h => h.mono (Nat.le_of_lt hlt)
  --@OPS
  have s4_5_10_11_16_17 : ∀ (w2 : World) (x28 x29 x34 x35 x40 x41 : Value), Below w1.heap.size w1 w2 → Rb k37 37 w2 w1.heap.size x29 (m0 + n0) (fp ++ gp) → Rb k46 46 w2 w1.heap.size x35 (m1 + n1) (fs ++ gs) → Rb k37 37 w2 w1.heap.size x41 (m2 + n2) (fw ++ gw) → wpAnyLast Tryz.prog .any ops Q (fun w' => Below (w.heap.size + 1 + 1) w1 w') [] 4 #[true, true, true, true, true, true, true, true, true, true, true, true, true, true, true, true, true, true, false, false, false, false] (M x28 x29 x34 x35 x40 x41) w2 := by
    intro w2 x28 x29 x34 x35 x40 x41 hc f5 f11 f17
    simp only [hM]
    subst hops
    obtain ⟨C0, c0, rfl, r0⟩ := f5
    obtain ⟨C1, c1, rfl, r1⟩ := f11
    obtain ⟨C2, c2, rfl, r2⟩ := f17
    refine with_tab tab14_6 (fun HT_ => ?_)
    refine pure_ (i := 18) (N := some 42) (v := ?_) (a' := ?_) #[true, true, true, true, true, true, true, true, true, true, true, true, true, true, true, true, true, true, true, false, false, false] rfl rfl (any_of HT_.out (by kernel_rfl)) (fun _ _ _ h => hQp _ _ _ _ _ h) (Or.inl ⟨by rfl, ?_⟩) ?_ ?_
    rotate_left
    · intro w'
      go_simp
      with_reducible rfl
    rotate_left
    · simp only [Act.put, List.setIfInBounds_toArray, List.set_cons_zero, List.set_cons_succ, i64_w, i32_w]
      rfl
    refine one_ (i := 19) (N := some 43) #[true, true, true, true, true, true, true, true, true, true, true, true, true, true, true, true, true, true, true, true, false, false] rfl rfl (one_of HT_.out (by kernel_rfl)) (by decide) (fun K hK => ?_)
    refine goes_ Tryz.func20 (by kernel_rfl) rfl #[.agg #[.slice C0 (m0 + n0) c0, .slice C1 (m1 + n1) c1, .slice C2 (m2 + n2) c2]] (by rfl) rfl rfl (by (try simp only [List.map_toArray, List.map_cons, List.map_nil]); first | done | rfl) ?_
    refine (HNO w2 C0 C1 C2 c0 c1 c2 hl r0 r1 r2).mono ?_
    rintro e w3 ⟨h, pl, v, v0, v1, v2, rfl, hno, ho, hb⟩
    refine ⟨_, rfl, ?_⟩
    have HC3 := Aside0.mk (below_step hc hb)
    have HO := Aside0.mk (ho.lower hc.size)
    have HNo := Aside0.mk hno
    obtain ⟨E0, e0, y0, -, -⟩ := ho.h0.C37
    obtain ⟨E1, e1, y1, -, -⟩ := ho.h1.C46
    obtain ⟨E2, e2, y2, -, -⟩ := ho.h2.C37
    subst y0 y1 y2
    have heq := ho.eq
    subst heq
    have HX := Aside0.mk ((HC3.out.block _ (lt_of D2)).trans D2)
    have hlt := lt_of D2
    clear ho hno hb
    generalize hz0 : h.ps.length = z0 at *
    generalize hz1 : h.ss.length = z1 at *
    generalize hz2 : h.ws.length = z2 at *
    have HZ := Aside0.mk (And.intro hz0 (And.intro hz1 hz2))
    clear hz0 hz1 hz2
    refine hK.out _ _ (hS _ HC3.out) (fun hHeld => ?_)
    clear hK K
    refine norm_ (a' := ?_) ?_ ?_
    rotate_left
    · show Act.put _ (some 43) _ = _
      simp only [Act.put, List.setIfInBounds_toArray, List.set_cons_zero, List.set_cons_succ, i64_w, i32_w]
      rfl
    --@STORE
    have j0 : w3.cell? ⟨w.heap.size + 1 + 1, 0, none⟩ = some (.slice none 0 0) := cell_of HX.out 0
    have j1 : w3.cell? ⟨w.heap.size + 1 + 1, 1, none⟩ = some (.slice none 0 0) := cell_of HX.out 1
    have j2 : w3.cell? ⟨w.heap.size + 1 + 1, 2, none⟩ = some (.slice none 0 0) := cell_of HX.out 2
    have k0 : w3.frozen? ⟨w.heap.size + 1 + 1, 0, none⟩ = false := frozen_of HX.out 0
    have k1 : w3.frozen? ⟨w.heap.size + 1 + 1, 1, none⟩ = false := frozen_of HX.out 1
    have k2 : w3.frozen? ⟨w.heap.size + 1 + 1, 2, none⟩ = false := frozen_of HX.out 2
    refine one_ (i := 20) (N := none) #[true, true, true, true, true, true, true, true, true, true, true, true, true, true, true, true, true, true, true, true, true, false] rfl rfl (one_of HT_.out (by kernel_rfl)) (by decide) (fun K hK => ?_)
    refine skip_ (w1 := ?_) (by rfl) rfl ?_ ?_
    rotate_left
    · go_simp
      rfl
    have hFr : Fr w3 (w.heap.size + 1 + 1) (((w3.setCell ⟨w.heap.size + 1 + 1, 0, none⟩ (.slice E0 z0 e0)).setCell ⟨w.heap.size + 1 + 1, 1, none⟩ (.slice E1 z1 e1)).setCell ⟨w.heap.size + 1 + 1, 2, none⟩ (.slice E2 z2 e2)) := (((Fr.refl (lt_of HX.out)).set 0 _).set 1 _).set 2 _
    obtain ⟨cs1, hc1⟩ := setc_typed HX.out (w.heap.size + 1 + 1) 0 (.slice E0 z0 e0)
    obtain ⟨cs2, hc2⟩ := setc_typed hc1 (w.heap.size + 1 + 1) 1 (.slice E1 z1 e1)
    have HO2 := Aside0.mk (show FtO (((w3.setCell ⟨w.heap.size + 1 + 1, 0, none⟩ (.slice E0 z0 e0)).setCell ⟨w.heap.size + 1 + 1, 1, none⟩ (.slice E1 z1 e1)).setCell ⟨w.heap.size + 1 + 1, 2, none⟩ (.slice E2 z2 e2)) w1.heap.size (.agg #[.slice E0 z0 e0, .slice E1 z1 e1, .slice E2 z2 e2]) h (.slice E0 z0 e0) (.slice E1 z1 e1) (.slice E2 z2 e2) from ((HO.out.setc HX.out).setc hc1).setc hc2)
    have hl3 : Below (w.heap.size + 1 + 1) w1 (((w3.setCell ⟨w.heap.size + 1 + 1, 0, none⟩ (.slice E0 z0 e0)).setCell ⟨w.heap.size + 1 + 1, 1, none⟩ (.slice E1 z1 e1)).setCell ⟨w.heap.size + 1 + 1, 2, none⟩ (.slice E2 z2 e2)) := Below.trans (hS _ HC3.out) hFr.low
    have HX4 := Aside0.mk (show (((w3.setCell ⟨w.heap.size + 1 + 1, 0, none⟩ (.slice E0 z0 e0)).setCell ⟨w.heap.size + 1 + 1, 1, none⟩ (.slice E1 z1 e1)).setCell ⟨w.heap.size + 1 + 1, 2, none⟩ (.slice E2 z2 e2)).heap[w.heap.size + 1 + 1]? = some (.cells #[.slice E0 z0 e0, .slice E1 z1 e1, .slice E2 z2 e2] 25 (0, 0)) from setCell_heap (setCell_heap (setCell_heap HX.out _) _) _)
    generalize ((w3.setCell ⟨w.heap.size + 1 + 1, 0, none⟩ (.slice E0 z0 e0)).setCell ⟨w.heap.size + 1 + 1, 1, none⟩ (.slice E1 z1 e1)).setCell ⟨w.heap.size + 1 + 1, 2, none⟩ (.slice E2 z2 e2) = w4 at HO2 hl3 HX4 ⊢
    --@ST2
    refine hK.out _ _ hl3 (fun hHeld => ?_)
    clear hK K
    refine pure_ (i := 21) (N := some 5) (v := ?_) (a' := ?_) #[true, true, true, true, true, true, true, true, true, true, true, true, true, true, true, true, true, true, true, true, true, true] rfl rfl (any_of HT_.out (by kernel_rfl)) (fun _ _ _ h => hQp _ _ _ _ _ h) (Or.inl ⟨by rfl, ?_⟩) ?_ ?_
    rotate_left
    · intro w'
      go_simp
      with_reducible rfl
    rotate_left
    · simp only [Act.put, List.setIfInBounds_toArray, List.set_cons_zero, List.set_cons_succ, i64_w, i32_w]
      rfl
    refine done_ (done_of HT_.out (by kernel_rfl)) ?_
    --@ST3
    obtain ⟨rfl, rfl, rfl⟩ := HZ.out
    exact hEnd w4 h pl _ _ _ _ _ _ _ _ _ _ _ _ _ _ _ _ _ _ _ _ _ _ _ _ _ _ HNo.out HO2.out (hl3.mono (by omega)) HX4.out
  have s4_5_10_11_16 : ∀ (w2 : World) (x28 x29 x34 x35 x40 x41 : Value), Below w1.heap.size w1 w2 → Rb k37 37 w2 w1.heap.size x29 (m0 + n0) (fp ++ gp) → Rb k46 46 w2 w1.heap.size x35 (m1 + n1) (fs ++ gs) → Xb w2 x40 (.slice A2 m2 a2) (.slice B2 n2 b2) 22 → wpAnyLast Tryz.prog .any ops Q (fun w' => Below (w.heap.size + 1 + 1) w1 w') [] 5 #[true, true, true, true, true, true, true, true, true, true, true, true, true, true, true, true, true, false, false, false, false, false] (M x28 x29 x34 x35 x40 x41) w2 := by
    intro w2 x28 x29 x34 x35 x40 x41 hc f5 f11 f16
    simp only [hM]
    subst hops
    refine with_tab tab14_6 (fun HT_ => ?_)
    refine one_ (i := 17) (N := some 41) #[true, true, true, true, true, true, true, true, true, true, true, true, true, true, true, true, true, true, false, false, false, false] rfl rfl (one_of HT_.out (by kernel_rfl)) (by decide) (fun K hK => ?_)
    obtain ⟨bx, rfl, hx⟩ := f16
    refine goes_ Tryz.func32 (by kernel_rfl) rfl #[.slice (some ⟨bx, 0, none⟩) 2 2] (by rfl) rfl rfl (by (try simp only [List.map_toArray, List.map_cons, List.map_nil]); first | done | rfl) ?_
    refine (cat_at2 HM.out HLen.out hl hc (HF2 w2 hc) (HG2 w2 hc) hx).mono ?_
    rintro e w3 ⟨v, rfl, hR, hb⟩
    refine ⟨_, rfl, ?_⟩
    refine hK.out _ _ (hS _ (below_step hc hb)) (fun hHeld => ?_)
    clear hK K
    refine norm_ (a' := ?_) ?_ ?_
    rotate_left
    · show Act.put _ (some 41) _ = _
      simp only [Act.put, List.setIfInBounds_toArray, List.set_cons_zero, List.set_cons_succ, i64_w, i32_w]
      rfl
    simpa only [hM] using s4_5_10_11_16_17 _ x28 x29 x34 x35 _ _ (below_step hc hb) (f5.keep hb) (f11.keep hb) hR
  have s4_5_10_11 : ∀ (w2 : World) (x28 x29 x34 x35 x40 x41 : Value), Below w1.heap.size w1 w2 → Rb k37 37 w2 w1.heap.size x29 (m0 + n0) (fp ++ gp) → Rb k46 46 w2 w1.heap.size x35 (m1 + n1) (fs ++ gs) → wpAnyLast Tryz.prog .any ops Q (fun w' => Below (w.heap.size + 1 + 1) w1 w') [] 6 #[true, true, true, true, true, true, true, true, true, true, true, true, true, true, true, true, false, false, false, false, false, false] (M x28 x29 x34 x35 x40 x41) w2 := by
    intro w2 x28 x29 x34 x35 x40 x41 hc f5 f11
    simp only [hM]
    subst hops
    refine with_tab tab14_6 (fun HT_ => ?_)
    refine one_ (i := 16) (N := some 40) #[true, true, true, true, true, true, true, true, true, true, true, true, true, true, true, true, true, false, false, false, false, false] rfl rfl (one_of HT_.out (by kernel_rfl)) (by decide) (fun K hK => ?_)
    have hb := below_alloc (Below.refl w2.heap.size w2) (.cells #[.slice A2 m2 a2, .slice B2 n2 b2] 22)
    have hx : Xb (w2.alloc (.cells #[.slice A2 m2 a2, .slice B2 n2 b2] 22)) (.slice (some ⟨w2.heap.size, 0, none⟩) 2 2) (.slice A2 m2 a2) (.slice B2 n2 b2) 22 := ⟨_, rfl, heap_new w2 _⟩
    refine value_ (w1 := ?_) (v := ?_) (by rfl) rfl ?_ ?_
    rotate_left
    rotate_left
    · go_simp
      constructor
      · rfl
      · rfl
    refine hK.out _ _ (hS _ (below_step hc hb)) (fun hHeld => ?_)
    clear hK K
    refine norm_ (a' := ?_) ?_ ?_
    rotate_left
    · show Act.put _ (some 40) _ = _
      simp only [Act.put, List.setIfInBounds_toArray, List.set_cons_zero, List.set_cons_succ, i64_w, i32_w]
      rfl
    simpa only [hM] using s4_5_10_11_16 _ x28 x29 x34 x35 _ x41 (below_step hc hb) (f5.keep hb) (f11.keep hb) hx
  have s4_5_10_16 : ∀ (w2 : World) (x28 x29 x34 x35 x40 x41 : Value), Below w1.heap.size w1 w2 → Rb k37 37 w2 w1.heap.size x29 (m0 + n0) (fp ++ gp) → Xb w2 x34 (.slice A1 m1 a1) (.slice B1 n1 b1) 23 → Xb w2 x40 (.slice A2 m2 a2) (.slice B2 n2 b2) 22 → wpAnyLast Tryz.prog .any ops Q (fun w' => Below (w.heap.size + 1 + 1) w1 w') [] 6 #[true, true, true, true, true, true, true, true, true, true, true, false, true, true, true, true, true, false, false, false, false, false] (M x28 x29 x34 x35 x40 x41) w2 := by
    intro w2 x28 x29 x34 x35 x40 x41 hc f5 f10 f16
    simp only [hM]
    subst hops
    refine with_tab tab14_6 (fun HT_ => ?_)
    refine one_ (i := 11) (N := some 35) #[true, true, true, true, true, true, true, true, true, true, true, true, true, true, true, true, true, false, false, false, false, false] rfl rfl (one_of HT_.out (by kernel_rfl)) (by decide) (fun K hK => ?_)
    obtain ⟨bx, rfl, hx⟩ := f10
    refine goes_ Tryz.func33 (by kernel_rfl) rfl #[.slice (some ⟨bx, 0, none⟩) 2 2] (by rfl) rfl rfl (by (try simp only [List.map_toArray, List.map_cons, List.map_nil]); first | done | rfl) ?_
    refine (cat_at1 HM.out HLen.out hl hc (HF1 w2 hc) (HG1 w2 hc) hx).mono ?_
    rintro e w3 ⟨v, rfl, hR, hb⟩
    refine ⟨_, rfl, ?_⟩
    refine hK.out _ _ (hS _ (below_step hc hb)) (fun hHeld => ?_)
    clear hK K
    refine norm_ (a' := ?_) ?_ ?_
    rotate_left
    · show Act.put _ (some 35) _ = _
      simp only [Act.put, List.setIfInBounds_toArray, List.set_cons_zero, List.set_cons_succ, i64_w, i32_w]
      rfl
    simpa only [hM] using s4_5_10_11_16 _ x28 x29 _ _ x40 x41 (below_step hc hb) (f5.keep hb) hR (f16.keep hb)
  have s4_5_10 : ∀ (w2 : World) (x28 x29 x34 x35 x40 x41 : Value), Below w1.heap.size w1 w2 → Rb k37 37 w2 w1.heap.size x29 (m0 + n0) (fp ++ gp) → Xb w2 x34 (.slice A1 m1 a1) (.slice B1 n1 b1) 23 → wpAnyLast Tryz.prog .any ops Q (fun w' => Below (w.heap.size + 1 + 1) w1 w') [] 7 #[true, true, true, true, true, true, true, true, true, true, true, false, true, true, true, true, false, false, false, false, false, false] (M x28 x29 x34 x35 x40 x41) w2 := by
    intro w2 x28 x29 x34 x35 x40 x41 hc f5 f10
    simp only [hM]
    subst hops
    refine with_tab tab14_6 (fun HT_ => ?_)
    refine two_ (i := 11) (j := 16) (Ni := some 35) (Nj := some 40) #[true, true, true, true, true, true, true, true, true, true, true, true, true, true, true, true, false, false, false, false, false, false] #[true, true, true, true, true, true, true, true, true, true, true, false, true, true, true, true, true, false, false, false, false, false] rfl rfl rfl rfl (two_of HT_.out (by kernel_rfl)) (by decide) (by decide) (fun K hK => ?_) (fun K hK => ?_)
    · obtain ⟨bx, rfl, hx⟩ := f10
      refine goes_ Tryz.func33 (by kernel_rfl) rfl #[.slice (some ⟨bx, 0, none⟩) 2 2] (by rfl) rfl rfl (by (try simp only [List.map_toArray, List.map_cons, List.map_nil]); first | done | rfl) ?_
      refine (cat_at1 HM.out HLen.out hl hc (HF1 w2 hc) (HG1 w2 hc) hx).mono ?_
      rintro e w3 ⟨v, rfl, hR, hb⟩
      refine ⟨_, rfl, ?_⟩
      refine hK.out _ _ (hS _ (below_step hc hb)) (fun hHeld => ?_)
      clear hK K
      refine norm_ (a' := ?_) ?_ ?_
      rotate_left
      · show Act.put _ (some 35) _ = _
        simp only [Act.put, List.setIfInBounds_toArray, List.set_cons_zero, List.set_cons_succ, i64_w, i32_w]
        rfl
      simpa only [hM] using s4_5_10_11 _ x28 x29 _ _ x40 x41 (below_step hc hb) (f5.keep hb) hR
    · have hb := below_alloc (Below.refl w2.heap.size w2) (.cells #[.slice A2 m2 a2, .slice B2 n2 b2] 22)
      have hx : Xb (w2.alloc (.cells #[.slice A2 m2 a2, .slice B2 n2 b2] 22)) (.slice (some ⟨w2.heap.size, 0, none⟩) 2 2) (.slice A2 m2 a2) (.slice B2 n2 b2) 22 := ⟨_, rfl, heap_new w2 _⟩
      refine value_ (w1 := ?_) (v := ?_) (by rfl) rfl ?_ ?_
      rotate_left
      rotate_left
      · go_simp
        constructor
        · rfl
        · rfl
      refine hK.out _ _ (hS _ (below_step hc hb)) (fun hHeld => ?_)
      clear hK K
      refine norm_ (a' := ?_) ?_ ?_
      rotate_left
      · show Act.put _ (some 40) _ = _
        simp only [Act.put, List.setIfInBounds_toArray, List.set_cons_zero, List.set_cons_succ, i64_w, i32_w]
        rfl
      simpa only [hM] using s4_5_10_16 _ x28 x29 x34 x35 _ x41 (below_step hc hb) (f5.keep hb) (f10.keep hb) hx
  have s4_5_16 : ∀ (w2 : World) (x28 x29 x34 x35 x40 x41 : Value), Below w1.heap.size w1 w2 → Rb k37 37 w2 w1.heap.size x29 (m0 + n0) (fp ++ gp) → Xb w2 x40 (.slice A2 m2 a2) (.slice B2 n2 b2) 22 → wpAnyLast Tryz.prog .any ops Q (fun w' => Below (w.heap.size + 1 + 1) w1 w') [] 7 #[true, true, true, true, true, true, true, true, true, true, false, false, true, true, true, true, true, false, false, false, false, false] (M x28 x29 x34 x35 x40 x41) w2 := by
    intro w2 x28 x29 x34 x35 x40 x41 hc f5 f16
    simp only [hM]
    subst hops
    refine with_tab tab14_6 (fun HT_ => ?_)
    refine one_ (i := 10) (N := some 34) #[true, true, true, true, true, true, true, true, true, true, true, false, true, true, true, true, true, false, false, false, false, false] rfl rfl (one_of HT_.out (by kernel_rfl)) (by decide) (fun K hK => ?_)
    have hb := below_alloc (Below.refl w2.heap.size w2) (.cells #[.slice A1 m1 a1, .slice B1 n1 b1] 23)
    have hx : Xb (w2.alloc (.cells #[.slice A1 m1 a1, .slice B1 n1 b1] 23)) (.slice (some ⟨w2.heap.size, 0, none⟩) 2 2) (.slice A1 m1 a1) (.slice B1 n1 b1) 23 := ⟨_, rfl, heap_new w2 _⟩
    refine value_ (w1 := ?_) (v := ?_) (by rfl) rfl ?_ ?_
    rotate_left
    rotate_left
    · go_simp
      constructor
      · rfl
      · rfl
    refine hK.out _ _ (hS _ (below_step hc hb)) (fun hHeld => ?_)
    clear hK K
    refine norm_ (a' := ?_) ?_ ?_
    rotate_left
    · show Act.put _ (some 34) _ = _
      simp only [Act.put, List.setIfInBounds_toArray, List.set_cons_zero, List.set_cons_succ, i64_w, i32_w]
      rfl
    simpa only [hM] using s4_5_10_16 _ x28 x29 _ x35 x40 x41 (below_step hc hb) (f5.keep hb) hx (f16.keep hb)
  have s4_5 : ∀ (w2 : World) (x28 x29 x34 x35 x40 x41 : Value), Below w1.heap.size w1 w2 → Rb k37 37 w2 w1.heap.size x29 (m0 + n0) (fp ++ gp) → wpAnyLast Tryz.prog .any ops Q (fun w' => Below (w.heap.size + 1 + 1) w1 w') [] 8 #[true, true, true, true, true, true, true, true, true, true, false, false, true, true, true, true, false, false, false, false, false, false] (M x28 x29 x34 x35 x40 x41) w2 := by
    intro w2 x28 x29 x34 x35 x40 x41 hc f5
    simp only [hM]
    subst hops
    refine with_tab tab14_6 (fun HT_ => ?_)
    refine two_ (i := 10) (j := 16) (Ni := some 34) (Nj := some 40) #[true, true, true, true, true, true, true, true, true, true, true, false, true, true, true, true, false, false, false, false, false, false] #[true, true, true, true, true, true, true, true, true, true, false, false, true, true, true, true, true, false, false, false, false, false] rfl rfl rfl rfl (two_of HT_.out (by kernel_rfl)) (by decide) (by decide) (fun K hK => ?_) (fun K hK => ?_)
    · have hb := below_alloc (Below.refl w2.heap.size w2) (.cells #[.slice A1 m1 a1, .slice B1 n1 b1] 23)
      have hx : Xb (w2.alloc (.cells #[.slice A1 m1 a1, .slice B1 n1 b1] 23)) (.slice (some ⟨w2.heap.size, 0, none⟩) 2 2) (.slice A1 m1 a1) (.slice B1 n1 b1) 23 := ⟨_, rfl, heap_new w2 _⟩
      refine value_ (w1 := ?_) (v := ?_) (by rfl) rfl ?_ ?_
      rotate_left
      rotate_left
      · go_simp
        constructor
        · rfl
        · rfl
      refine hK.out _ _ (hS _ (below_step hc hb)) (fun hHeld => ?_)
      clear hK K
      refine norm_ (a' := ?_) ?_ ?_
      rotate_left
      · show Act.put _ (some 34) _ = _
        simp only [Act.put, List.setIfInBounds_toArray, List.set_cons_zero, List.set_cons_succ, i64_w, i32_w]
        rfl
      simpa only [hM] using s4_5_10 _ x28 x29 _ x35 x40 x41 (below_step hc hb) (f5.keep hb) hx
    · have hb := below_alloc (Below.refl w2.heap.size w2) (.cells #[.slice A2 m2 a2, .slice B2 n2 b2] 22)
      have hx : Xb (w2.alloc (.cells #[.slice A2 m2 a2, .slice B2 n2 b2] 22)) (.slice (some ⟨w2.heap.size, 0, none⟩) 2 2) (.slice A2 m2 a2) (.slice B2 n2 b2) 22 := ⟨_, rfl, heap_new w2 _⟩
      refine value_ (w1 := ?_) (v := ?_) (by rfl) rfl ?_ ?_
      rotate_left
      rotate_left
      · go_simp
        constructor
        · rfl
        · rfl
      refine hK.out _ _ (hS _ (below_step hc hb)) (fun hHeld => ?_)
      clear hK K
      refine norm_ (a' := ?_) ?_ ?_
      rotate_left
      · show Act.put _ (some 40) _ = _
        simp only [Act.put, List.setIfInBounds_toArray, List.set_cons_zero, List.set_cons_succ, i64_w, i32_w]
        rfl
      simpa only [hM] using s4_5_16 _ x28 x29 x34 x35 _ x41 (below_step hc hb) (f5.keep hb) hx
  have s4_10_16 : ∀ (w2 : World) (x28 x29 x34 x35 x40 x41 : Value), Below w1.heap.size w1 w2 → Xb w2 x28 (.slice A0 m0 a0) (.slice B0 n0 b0) 22 → Xb w2 x34 (.slice A1 m1 a1) (.slice B1 n1 b1) 23 → Xb w2 x40 (.slice A2 m2 a2) (.slice B2 n2 b2) 22 → wpAnyLast Tryz.prog .any ops Q (fun w' => Below (w.heap.size + 1 + 1) w1 w') [] 7 #[true, true, true, true, true, false, true, true, true, true, true, false, true, true, true, true, true, false, false, false, false, false] (M x28 x29 x34 x35 x40 x41) w2 := by
    intro w2 x28 x29 x34 x35 x40 x41 hc f4 f10 f16
    simp only [hM]
    subst hops
    refine with_tab tab14_6 (fun HT_ => ?_)
    refine one_ (i := 5) (N := some 29) #[true, true, true, true, true, true, true, true, true, true, true, false, true, true, true, true, true, false, false, false, false, false] rfl rfl (one_of HT_.out (by kernel_rfl)) (by decide) (fun K hK => ?_)
    obtain ⟨bx, rfl, hx⟩ := f4
    refine goes_ Tryz.func32 (by kernel_rfl) rfl #[.slice (some ⟨bx, 0, none⟩) 2 2] (by rfl) rfl rfl (by (try simp only [List.map_toArray, List.map_cons, List.map_nil]); first | done | rfl) ?_
    refine (cat_at0 HM.out HLen.out hl hc (HF0 w2 hc) (HG0 w2 hc) hx).mono ?_
    rintro e w3 ⟨v, rfl, hR, hb⟩
    refine ⟨_, rfl, ?_⟩
    refine hK.out _ _ (hS _ (below_step hc hb)) (fun hHeld => ?_)
    clear hK K
    refine norm_ (a' := ?_) ?_ ?_
    rotate_left
    · show Act.put _ (some 29) _ = _
      simp only [Act.put, List.setIfInBounds_toArray, List.set_cons_zero, List.set_cons_succ, i64_w, i32_w]
      rfl
    simpa only [hM] using s4_5_10_16 _ _ _ x34 x35 x40 x41 (below_step hc hb) hR (f10.keep hb) (f16.keep hb)
  have s4_10 : ∀ (w2 : World) (x28 x29 x34 x35 x40 x41 : Value), Below w1.heap.size w1 w2 → Xb w2 x28 (.slice A0 m0 a0) (.slice B0 n0 b0) 22 → Xb w2 x34 (.slice A1 m1 a1) (.slice B1 n1 b1) 23 → wpAnyLast Tryz.prog .any ops Q (fun w' => Below (w.heap.size + 1 + 1) w1 w') [] 8 #[true, true, true, true, true, false, true, true, true, true, true, false, true, true, true, true, false, false, false, false, false, false] (M x28 x29 x34 x35 x40 x41) w2 := by
    intro w2 x28 x29 x34 x35 x40 x41 hc f4 f10
    simp only [hM]
    subst hops
    refine with_tab tab14_6 (fun HT_ => ?_)
    refine two_ (i := 5) (j := 16) (Ni := some 29) (Nj := some 40) #[true, true, true, true, true, true, true, true, true, true, true, false, true, true, true, true, false, false, false, false, false, false] #[true, true, true, true, true, false, true, true, true, true, true, false, true, true, true, true, true, false, false, false, false, false] rfl rfl rfl rfl (two_of HT_.out (by kernel_rfl)) (by decide) (by decide) (fun K hK => ?_) (fun K hK => ?_)
    · obtain ⟨bx, rfl, hx⟩ := f4
      refine goes_ Tryz.func32 (by kernel_rfl) rfl #[.slice (some ⟨bx, 0, none⟩) 2 2] (by rfl) rfl rfl (by (try simp only [List.map_toArray, List.map_cons, List.map_nil]); first | done | rfl) ?_
      refine (cat_at0 HM.out HLen.out hl hc (HF0 w2 hc) (HG0 w2 hc) hx).mono ?_
      rintro e w3 ⟨v, rfl, hR, hb⟩
      refine ⟨_, rfl, ?_⟩
      refine hK.out _ _ (hS _ (below_step hc hb)) (fun hHeld => ?_)
      clear hK K
      refine norm_ (a' := ?_) ?_ ?_
      rotate_left
      · show Act.put _ (some 29) _ = _
        simp only [Act.put, List.setIfInBounds_toArray, List.set_cons_zero, List.set_cons_succ, i64_w, i32_w]
        rfl
      simpa only [hM] using s4_5_10 _ _ _ x34 x35 x40 x41 (below_step hc hb) hR (f10.keep hb)
    · have hb := below_alloc (Below.refl w2.heap.size w2) (.cells #[.slice A2 m2 a2, .slice B2 n2 b2] 22)
      have hx : Xb (w2.alloc (.cells #[.slice A2 m2 a2, .slice B2 n2 b2] 22)) (.slice (some ⟨w2.heap.size, 0, none⟩) 2 2) (.slice A2 m2 a2) (.slice B2 n2 b2) 22 := ⟨_, rfl, heap_new w2 _⟩
      refine value_ (w1 := ?_) (v := ?_) (by rfl) rfl ?_ ?_
      rotate_left
      rotate_left
      · go_simp
        constructor
        · rfl
        · rfl
      refine hK.out _ _ (hS _ (below_step hc hb)) (fun hHeld => ?_)
      clear hK K
      refine norm_ (a' := ?_) ?_ ?_
      rotate_left
      · show Act.put _ (some 40) _ = _
        simp only [Act.put, List.setIfInBounds_toArray, List.set_cons_zero, List.set_cons_succ, i64_w, i32_w]
        rfl
      simpa only [hM] using s4_10_16 _ x28 x29 x34 x35 _ x41 (below_step hc hb) (f4.keep hb) (f10.keep hb) hx
  have s4_16 : ∀ (w2 : World) (x28 x29 x34 x35 x40 x41 : Value), Below w1.heap.size w1 w2 → Xb w2 x28 (.slice A0 m0 a0) (.slice B0 n0 b0) 22 → Xb w2 x40 (.slice A2 m2 a2) (.slice B2 n2 b2) 22 → wpAnyLast Tryz.prog .any ops Q (fun w' => Below (w.heap.size + 1 + 1) w1 w') [] 8 #[true, true, true, true, true, false, true, true, true, true, false, false, true, true, true, true, true, false, false, false, false, false] (M x28 x29 x34 x35 x40 x41) w2 := by
    intro w2 x28 x29 x34 x35 x40 x41 hc f4 f16
    simp only [hM]
    subst hops
    refine with_tab tab14_6 (fun HT_ => ?_)
    refine two_ (i := 5) (j := 10) (Ni := some 29) (Nj := some 34) #[true, true, true, true, true, true, true, true, true, true, false, false, true, true, true, true, true, false, false, false, false, false] #[true, true, true, true, true, false, true, true, true, true, true, false, true, true, true, true, true, false, false, false, false, false] rfl rfl rfl rfl (two_of HT_.out (by kernel_rfl)) (by decide) (by decide) (fun K hK => ?_) (fun K hK => ?_)
    · obtain ⟨bx, rfl, hx⟩ := f4
      refine goes_ Tryz.func32 (by kernel_rfl) rfl #[.slice (some ⟨bx, 0, none⟩) 2 2] (by rfl) rfl rfl (by (try simp only [List.map_toArray, List.map_cons, List.map_nil]); first | done | rfl) ?_
      refine (cat_at0 HM.out HLen.out hl hc (HF0 w2 hc) (HG0 w2 hc) hx).mono ?_
      rintro e w3 ⟨v, rfl, hR, hb⟩
      refine ⟨_, rfl, ?_⟩
      refine hK.out _ _ (hS _ (below_step hc hb)) (fun hHeld => ?_)
      clear hK K
      refine norm_ (a' := ?_) ?_ ?_
      rotate_left
      · show Act.put _ (some 29) _ = _
        simp only [Act.put, List.setIfInBounds_toArray, List.set_cons_zero, List.set_cons_succ, i64_w, i32_w]
        rfl
      simpa only [hM] using s4_5_16 _ _ _ x34 x35 x40 x41 (below_step hc hb) hR (f16.keep hb)
    · have hb := below_alloc (Below.refl w2.heap.size w2) (.cells #[.slice A1 m1 a1, .slice B1 n1 b1] 23)
      have hx : Xb (w2.alloc (.cells #[.slice A1 m1 a1, .slice B1 n1 b1] 23)) (.slice (some ⟨w2.heap.size, 0, none⟩) 2 2) (.slice A1 m1 a1) (.slice B1 n1 b1) 23 := ⟨_, rfl, heap_new w2 _⟩
      refine value_ (w1 := ?_) (v := ?_) (by rfl) rfl ?_ ?_
      rotate_left
      rotate_left
      · go_simp
        constructor
        · rfl
        · rfl
      refine hK.out _ _ (hS _ (below_step hc hb)) (fun hHeld => ?_)
      clear hK K
      refine norm_ (a' := ?_) ?_ ?_
      rotate_left
      · show Act.put _ (some 34) _ = _
        simp only [Act.put, List.setIfInBounds_toArray, List.set_cons_zero, List.set_cons_succ, i64_w, i32_w]
        rfl
      simpa only [hM] using s4_10_16 _ x28 x29 _ x35 x40 x41 (below_step hc hb) (f4.keep hb) hx (f16.keep hb)
  have s4 : ∀ (w2 : World) (x28 x29 x34 x35 x40 x41 : Value), Below w1.heap.size w1 w2 → Xb w2 x28 (.slice A0 m0 a0) (.slice B0 n0 b0) 22 → wpAnyLast Tryz.prog .any ops Q (fun w' => Below (w.heap.size + 1 + 1) w1 w') [] 9 #[true, true, true, true, true, false, true, true, true, true, false, false, true, true, true, true, false, false, false, false, false, false] (M x28 x29 x34 x35 x40 x41) w2 := by
    intro w2 x28 x29 x34 x35 x40 x41 hc f4
    simp only [hM]
    subst hops
    refine with_tab tab14_6 (fun HT_ => ?_)
    refine three_ (i := 5) (j := 10) (k := 16) (Ni := some 29) (Nj := some 34) (Nk := some 40) #[true, true, true, true, true, true, true, true, true, true, false, false, true, true, true, true, false, false, false, false, false, false] #[true, true, true, true, true, false, true, true, true, true, true, false, true, true, true, true, false, false, false, false, false, false] #[true, true, true, true, true, false, true, true, true, true, false, false, true, true, true, true, true, false, false, false, false, false] rfl rfl rfl rfl rfl rfl (three_of HT_.out (by kernel_rfl)) (by decide) (by decide) (by decide) (fun K hK => ?_) (fun K hK => ?_) (fun K hK => ?_)
    · obtain ⟨bx, rfl, hx⟩ := f4
      refine goes_ Tryz.func32 (by kernel_rfl) rfl #[.slice (some ⟨bx, 0, none⟩) 2 2] (by rfl) rfl rfl (by (try simp only [List.map_toArray, List.map_cons, List.map_nil]); first | done | rfl) ?_
      refine (cat_at0 HM.out HLen.out hl hc (HF0 w2 hc) (HG0 w2 hc) hx).mono ?_
      rintro e w3 ⟨v, rfl, hR, hb⟩
      refine ⟨_, rfl, ?_⟩
      refine hK.out _ _ (hS _ (below_step hc hb)) (fun hHeld => ?_)
      clear hK K
      refine norm_ (a' := ?_) ?_ ?_
      rotate_left
      · show Act.put _ (some 29) _ = _
        simp only [Act.put, List.setIfInBounds_toArray, List.set_cons_zero, List.set_cons_succ, i64_w, i32_w]
        rfl
      simpa only [hM] using s4_5 _ _ _ x34 x35 x40 x41 (below_step hc hb) hR
    · have hb := below_alloc (Below.refl w2.heap.size w2) (.cells #[.slice A1 m1 a1, .slice B1 n1 b1] 23)
      have hx : Xb (w2.alloc (.cells #[.slice A1 m1 a1, .slice B1 n1 b1] 23)) (.slice (some ⟨w2.heap.size, 0, none⟩) 2 2) (.slice A1 m1 a1) (.slice B1 n1 b1) 23 := ⟨_, rfl, heap_new w2 _⟩
      refine value_ (w1 := ?_) (v := ?_) (by rfl) rfl ?_ ?_
      rotate_left
      rotate_left
      · go_simp
        constructor
        · rfl
        · rfl
      refine hK.out _ _ (hS _ (below_step hc hb)) (fun hHeld => ?_)
      clear hK K
      refine norm_ (a' := ?_) ?_ ?_
      rotate_left
      · show Act.put _ (some 34) _ = _
        simp only [Act.put, List.setIfInBounds_toArray, List.set_cons_zero, List.set_cons_succ, i64_w, i32_w]
        rfl
      simpa only [hM] using s4_10 _ x28 x29 _ x35 x40 x41 (below_step hc hb) (f4.keep hb) hx
    · have hb := below_alloc (Below.refl w2.heap.size w2) (.cells #[.slice A2 m2 a2, .slice B2 n2 b2] 22)
      have hx : Xb (w2.alloc (.cells #[.slice A2 m2 a2, .slice B2 n2 b2] 22)) (.slice (some ⟨w2.heap.size, 0, none⟩) 2 2) (.slice A2 m2 a2) (.slice B2 n2 b2) 22 := ⟨_, rfl, heap_new w2 _⟩
      refine value_ (w1 := ?_) (v := ?_) (by rfl) rfl ?_ ?_
      rotate_left
      rotate_left
      · go_simp
        constructor
        · rfl
        · rfl
      refine hK.out _ _ (hS _ (below_step hc hb)) (fun hHeld => ?_)
      clear hK K
      refine norm_ (a' := ?_) ?_ ?_
      rotate_left
      · show Act.put _ (some 40) _ = _
        simp only [Act.put, List.setIfInBounds_toArray, List.set_cons_zero, List.set_cons_succ, i64_w, i32_w]
        rfl
      simpa only [hM] using s4_16 _ x28 x29 x34 x35 _ x41 (below_step hc hb) (f4.keep hb) hx
  have s10_16 : ∀ (w2 : World) (x28 x29 x34 x35 x40 x41 : Value), Below w1.heap.size w1 w2 → Xb w2 x34 (.slice A1 m1 a1) (.slice B1 n1 b1) 23 → Xb w2 x40 (.slice A2 m2 a2) (.slice B2 n2 b2) 22 → wpAnyLast Tryz.prog .any ops Q (fun w' => Below (w.heap.size + 1 + 1) w1 w') [] 8 #[true, true, true, true, false, false, true, true, true, true, true, false, true, true, true, true, true, false, false, false, false, false] (M x28 x29 x34 x35 x40 x41) w2 := by
    intro w2 x28 x29 x34 x35 x40 x41 hc f10 f16
    simp only [hM]
    subst hops
    refine with_tab tab14_6 (fun HT_ => ?_)
    refine one_ (i := 4) (N := some 28) #[true, true, true, true, true, false, true, true, true, true, true, false, true, true, true, true, true, false, false, false, false, false] rfl rfl (one_of HT_.out (by kernel_rfl)) (by decide) (fun K hK => ?_)
    have hb := below_alloc (Below.refl w2.heap.size w2) (.cells #[.slice A0 m0 a0, .slice B0 n0 b0] 22)
    have hx : Xb (w2.alloc (.cells #[.slice A0 m0 a0, .slice B0 n0 b0] 22)) (.slice (some ⟨w2.heap.size, 0, none⟩) 2 2) (.slice A0 m0 a0) (.slice B0 n0 b0) 22 := ⟨_, rfl, heap_new w2 _⟩
    refine value_ (w1 := ?_) (v := ?_) (by rfl) rfl ?_ ?_
    rotate_left
    rotate_left
    · go_simp
      constructor
      · rfl
      · rfl
    refine hK.out _ _ (hS _ (below_step hc hb)) (fun hHeld => ?_)
    clear hK K
    refine norm_ (a' := ?_) ?_ ?_
    rotate_left
    · show Act.put _ (some 28) _ = _
      simp only [Act.put, List.setIfInBounds_toArray, List.set_cons_zero, List.set_cons_succ, i64_w, i32_w]
      rfl
    simpa only [hM] using s4_10_16 _ _ x29 x34 x35 x40 x41 (below_step hc hb) hx (f10.keep hb) (f16.keep hb)
  have s10 : ∀ (w2 : World) (x28 x29 x34 x35 x40 x41 : Value), Below w1.heap.size w1 w2 → Xb w2 x34 (.slice A1 m1 a1) (.slice B1 n1 b1) 23 → wpAnyLast Tryz.prog .any ops Q (fun w' => Below (w.heap.size + 1 + 1) w1 w') [] 9 #[true, true, true, true, false, false, true, true, true, true, true, false, true, true, true, true, false, false, false, false, false, false] (M x28 x29 x34 x35 x40 x41) w2 := by
    intro w2 x28 x29 x34 x35 x40 x41 hc f10
    simp only [hM]
    subst hops
    refine with_tab tab14_6 (fun HT_ => ?_)
    refine two_ (i := 4) (j := 16) (Ni := some 28) (Nj := some 40) #[true, true, true, true, true, false, true, true, true, true, true, false, true, true, true, true, false, false, false, false, false, false] #[true, true, true, true, false, false, true, true, true, true, true, false, true, true, true, true, true, false, false, false, false, false] rfl rfl rfl rfl (two_of HT_.out (by kernel_rfl)) (by decide) (by decide) (fun K hK => ?_) (fun K hK => ?_)
    · have hb := below_alloc (Below.refl w2.heap.size w2) (.cells #[.slice A0 m0 a0, .slice B0 n0 b0] 22)
      have hx : Xb (w2.alloc (.cells #[.slice A0 m0 a0, .slice B0 n0 b0] 22)) (.slice (some ⟨w2.heap.size, 0, none⟩) 2 2) (.slice A0 m0 a0) (.slice B0 n0 b0) 22 := ⟨_, rfl, heap_new w2 _⟩
      refine value_ (w1 := ?_) (v := ?_) (by rfl) rfl ?_ ?_
      rotate_left
      rotate_left
      · go_simp
        constructor
        · rfl
        · rfl
      refine hK.out _ _ (hS _ (below_step hc hb)) (fun hHeld => ?_)
      clear hK K
      refine norm_ (a' := ?_) ?_ ?_
      rotate_left
      · show Act.put _ (some 28) _ = _
        simp only [Act.put, List.setIfInBounds_toArray, List.set_cons_zero, List.set_cons_succ, i64_w, i32_w]
        rfl
      simpa only [hM] using s4_10 _ _ x29 x34 x35 x40 x41 (below_step hc hb) hx (f10.keep hb)
    · have hb := below_alloc (Below.refl w2.heap.size w2) (.cells #[.slice A2 m2 a2, .slice B2 n2 b2] 22)
      have hx : Xb (w2.alloc (.cells #[.slice A2 m2 a2, .slice B2 n2 b2] 22)) (.slice (some ⟨w2.heap.size, 0, none⟩) 2 2) (.slice A2 m2 a2) (.slice B2 n2 b2) 22 := ⟨_, rfl, heap_new w2 _⟩
      refine value_ (w1 := ?_) (v := ?_) (by rfl) rfl ?_ ?_
      rotate_left
      rotate_left
      · go_simp
        constructor
        · rfl
        · rfl
      refine hK.out _ _ (hS _ (below_step hc hb)) (fun hHeld => ?_)
      clear hK K
      refine norm_ (a' := ?_) ?_ ?_
      rotate_left
      · show Act.put _ (some 40) _ = _
        simp only [Act.put, List.setIfInBounds_toArray, List.set_cons_zero, List.set_cons_succ, i64_w, i32_w]
        rfl
      simpa only [hM] using s10_16 _ x28 x29 x34 x35 _ x41 (below_step hc hb) (f10.keep hb) hx
  have s16 : ∀ (w2 : World) (x28 x29 x34 x35 x40 x41 : Value), Below w1.heap.size w1 w2 → Xb w2 x40 (.slice A2 m2 a2) (.slice B2 n2 b2) 22 → wpAnyLast Tryz.prog .any ops Q (fun w' => Below (w.heap.size + 1 + 1) w1 w') [] 9 #[true, true, true, true, false, false, true, true, true, true, false, false, true, true, true, true, true, false, false, false, false, false] (M x28 x29 x34 x35 x40 x41) w2 := by
    intro w2 x28 x29 x34 x35 x40 x41 hc f16
    simp only [hM]
    subst hops
    refine with_tab tab14_6 (fun HT_ => ?_)
    refine two_ (i := 4) (j := 10) (Ni := some 28) (Nj := some 34) #[true, true, true, true, true, false, true, true, true, true, false, false, true, true, true, true, true, false, false, false, false, false] #[true, true, true, true, false, false, true, true, true, true, true, false, true, true, true, true, true, false, false, false, false, false] rfl rfl rfl rfl (two_of HT_.out (by kernel_rfl)) (by decide) (by decide) (fun K hK => ?_) (fun K hK => ?_)
    · have hb := below_alloc (Below.refl w2.heap.size w2) (.cells #[.slice A0 m0 a0, .slice B0 n0 b0] 22)
      have hx : Xb (w2.alloc (.cells #[.slice A0 m0 a0, .slice B0 n0 b0] 22)) (.slice (some ⟨w2.heap.size, 0, none⟩) 2 2) (.slice A0 m0 a0) (.slice B0 n0 b0) 22 := ⟨_, rfl, heap_new w2 _⟩
      refine value_ (w1 := ?_) (v := ?_) (by rfl) rfl ?_ ?_
      rotate_left
      rotate_left
      · go_simp
        constructor
        · rfl
        · rfl
      refine hK.out _ _ (hS _ (below_step hc hb)) (fun hHeld => ?_)
      clear hK K
      refine norm_ (a' := ?_) ?_ ?_
      rotate_left
      · show Act.put _ (some 28) _ = _
        simp only [Act.put, List.setIfInBounds_toArray, List.set_cons_zero, List.set_cons_succ, i64_w, i32_w]
        rfl
      simpa only [hM] using s4_16 _ _ x29 x34 x35 x40 x41 (below_step hc hb) hx (f16.keep hb)
    · have hb := below_alloc (Below.refl w2.heap.size w2) (.cells #[.slice A1 m1 a1, .slice B1 n1 b1] 23)
      have hx : Xb (w2.alloc (.cells #[.slice A1 m1 a1, .slice B1 n1 b1] 23)) (.slice (some ⟨w2.heap.size, 0, none⟩) 2 2) (.slice A1 m1 a1) (.slice B1 n1 b1) 23 := ⟨_, rfl, heap_new w2 _⟩
      refine value_ (w1 := ?_) (v := ?_) (by rfl) rfl ?_ ?_
      rotate_left
      rotate_left
      · go_simp
        constructor
        · rfl
        · rfl
      refine hK.out _ _ (hS _ (below_step hc hb)) (fun hHeld => ?_)
      clear hK K
      refine norm_ (a' := ?_) ?_ ?_
      rotate_left
      · show Act.put _ (some 34) _ = _
        simp only [Act.put, List.setIfInBounds_toArray, List.set_cons_zero, List.set_cons_succ, i64_w, i32_w]
        rfl
      simpa only [hM] using s10_16 _ x28 x29 _ x35 x40 x41 (below_step hc hb) hx (f16.keep hb)
  have s : ∀ (w2 : World) (x28 x29 x34 x35 x40 x41 : Value), Below w1.heap.size w1 w2 → wpAnyLast Tryz.prog .any ops Q (fun w' => Below (w.heap.size + 1 + 1) w1 w') [] 10 #[true, true, true, true, false, false, true, true, true, true, false, false, true, true, true, true, false, false, false, false, false, false] (M x28 x29 x34 x35 x40 x41) w2 := by
    intro w2 x28 x29 x34 x35 x40 x41 hc
    simp only [hM]
    subst hops
    refine with_tab tab14_6 (fun HT_ => ?_)
    refine three_ (i := 4) (j := 10) (k := 16) (Ni := some 28) (Nj := some 34) (Nk := some 40) #[true, true, true, true, true, false, true, true, true, true, false, false, true, true, true, true, false, false, false, false, false, false] #[true, true, true, true, false, false, true, true, true, true, true, false, true, true, true, true, false, false, false, false, false, false] #[true, true, true, true, false, false, true, true, true, true, false, false, true, true, true, true, true, false, false, false, false, false] rfl rfl rfl rfl rfl rfl (three_of HT_.out (by kernel_rfl)) (by decide) (by decide) (by decide) (fun K hK => ?_) (fun K hK => ?_) (fun K hK => ?_)
    · have hb := below_alloc (Below.refl w2.heap.size w2) (.cells #[.slice A0 m0 a0, .slice B0 n0 b0] 22)
      have hx : Xb (w2.alloc (.cells #[.slice A0 m0 a0, .slice B0 n0 b0] 22)) (.slice (some ⟨w2.heap.size, 0, none⟩) 2 2) (.slice A0 m0 a0) (.slice B0 n0 b0) 22 := ⟨_, rfl, heap_new w2 _⟩
      refine value_ (w1 := ?_) (v := ?_) (by rfl) rfl ?_ ?_
      rotate_left
      rotate_left
      · go_simp
        constructor
        · rfl
        · rfl
      refine hK.out _ _ (hS _ (below_step hc hb)) (fun hHeld => ?_)
      clear hK K
      refine norm_ (a' := ?_) ?_ ?_
      rotate_left
      · show Act.put _ (some 28) _ = _
        simp only [Act.put, List.setIfInBounds_toArray, List.set_cons_zero, List.set_cons_succ, i64_w, i32_w]
        rfl
      simpa only [hM] using s4 _ _ x29 x34 x35 x40 x41 (below_step hc hb) hx
    · have hb := below_alloc (Below.refl w2.heap.size w2) (.cells #[.slice A1 m1 a1, .slice B1 n1 b1] 23)
      have hx : Xb (w2.alloc (.cells #[.slice A1 m1 a1, .slice B1 n1 b1] 23)) (.slice (some ⟨w2.heap.size, 0, none⟩) 2 2) (.slice A1 m1 a1) (.slice B1 n1 b1) 23 := ⟨_, rfl, heap_new w2 _⟩
      refine value_ (w1 := ?_) (v := ?_) (by rfl) rfl ?_ ?_
      rotate_left
      rotate_left
      · go_simp
        constructor
        · rfl
        · rfl
      refine hK.out _ _ (hS _ (below_step hc hb)) (fun hHeld => ?_)
      clear hK K
      refine norm_ (a' := ?_) ?_ ?_
      rotate_left
      · show Act.put _ (some 34) _ = _
        simp only [Act.put, List.setIfInBounds_toArray, List.set_cons_zero, List.set_cons_succ, i64_w, i32_w]
        rfl
      simpa only [hM] using s10 _ x28 x29 _ x35 x40 x41 (below_step hc hb) hx
    · have hb := below_alloc (Below.refl w2.heap.size w2) (.cells #[.slice A2 m2 a2, .slice B2 n2 b2] 22)
      have hx : Xb (w2.alloc (.cells #[.slice A2 m2 a2, .slice B2 n2 b2] 22)) (.slice (some ⟨w2.heap.size, 0, none⟩) 2 2) (.slice A2 m2 a2) (.slice B2 n2 b2) 22 := ⟨_, rfl, heap_new w2 _⟩
      refine value_ (w1 := ?_) (v := ?_) (by rfl) rfl ?_ ?_
      rotate_left
      rotate_left
      · go_simp
        constructor
        · rfl
        · rfl
      refine hK.out _ _ (hS _ (below_step hc hb)) (fun hHeld => ?_)
      clear hK K
      refine norm_ (a' := ?_) ?_ ?_
      rotate_left
      · show Act.put _ (some 40) _ = _
        simp only [Act.put, List.setIfInBounds_toArray, List.set_cons_zero, List.set_cons_succ, i64_w, i32_w]
        rfl
      simpa only [hM] using s16 _ x28 x29 x34 x35 _ x41 (below_step hc hb) hx
  subst hops
  have hbD := below_step hc9 (below_drew1 (Below.refl w9.heap.size w9))
  refine start_ (n := 22) (S := fun w' => Below (w.heap.size + 1 + 1) w1 w') (ds := []) #[false, false, false, false, false, false, false, false, false, false, false, false, false, false, false, false, false, false, false, false, false, false] (by kernel_rfl) rfl rfl (hS _ hbD) (fun hHeld => ?_); refine with_tab tab14_6 (fun HT_ => ?_)
  generalize w9.drew = w10 at hbD hHeld ⊢
  clear hHeld
  have hHeld := hS _ hbD
  refine pure_ (i := 0) (N := some 24) (v := ?_) (a' := ?_) #[true, false, false, false, false, false, false, false, false, false, false, false, false, false, false, false, false, false, false, false, false, false] rfl rfl (any_of HT_.out (by kernel_rfl)) (fun _ _ _ h => hQp _ _ _ _ _ h) (Or.inl ⟨by rfl, ?_⟩) ?_ ?_
  rotate_left
  · intro w'
    go_simp
    with_reducible rfl
  rotate_left
  · simp only [Act.put, List.setIfInBounds_toArray, List.set_cons_zero, List.set_cons_succ, i64_w, i32_w]
    rfl
  refine pure_ (i := 2) (N := some 26) (v := ?_) (a' := ?_) #[true, false, true, false, false, false, false, false, false, false, false, false, false, false, false, false, false, false, false, false, false, false] rfl rfl (any_of HT_.out (by kernel_rfl)) (fun _ _ _ h => hQp _ _ _ _ _ h) (Or.inl ⟨by rfl, ?_⟩) ?_ ?_
  rotate_left
  · intro w'
    go_simp
    with_reducible rfl
  rotate_left
  · simp only [Act.put, List.setIfInBounds_toArray, List.set_cons_zero, List.set_cons_succ, i64_w, i32_w]
    rfl
  refine pure_ (i := 6) (N := some 30) (v := ?_) (a' := ?_) #[true, false, true, false, false, false, true, false, false, false, false, false, false, false, false, false, false, false, false, false, false, false] rfl rfl (any_of HT_.out (by kernel_rfl)) (fun _ _ _ h => hQp _ _ _ _ _ h) (Or.inl ⟨by rfl, ?_⟩) ?_ ?_
  rotate_left
  · intro w'
    go_simp
    with_reducible rfl
  rotate_left
  · simp only [Act.put, List.setIfInBounds_toArray, List.set_cons_zero, List.set_cons_succ, i64_w, i32_w]
    rfl
  refine pure_ (i := 8) (N := some 32) (v := ?_) (a' := ?_) #[true, false, true, false, false, false, true, false, true, false, false, false, false, false, false, false, false, false, false, false, false, false] rfl rfl (any_of HT_.out (by kernel_rfl)) (fun _ _ _ h => hQp _ _ _ _ _ h) (Or.inl ⟨by rfl, ?_⟩) ?_ ?_
  rotate_left
  · intro w'
    go_simp
    with_reducible rfl
  rotate_left
  · simp only [Act.put, List.setIfInBounds_toArray, List.set_cons_zero, List.set_cons_succ, i64_w, i32_w]
    rfl
  refine pure_ (i := 12) (N := some 36) (v := ?_) (a' := ?_) #[true, false, true, false, false, false, true, false, true, false, false, false, true, false, false, false, false, false, false, false, false, false] rfl rfl (any_of HT_.out (by kernel_rfl)) (fun _ _ _ h => hQp _ _ _ _ _ h) (Or.inl ⟨by rfl, ?_⟩) ?_ ?_
  rotate_left
  · intro w'
    go_simp
    with_reducible rfl
  rotate_left
  · simp only [Act.put, List.setIfInBounds_toArray, List.set_cons_zero, List.set_cons_succ, i64_w, i32_w]
    rfl
  refine pure_ (i := 14) (N := some 38) (v := ?_) (a' := ?_) #[true, false, true, false, false, false, true, false, true, false, false, false, true, false, true, false, false, false, false, false, false, false] rfl rfl (any_of HT_.out (by kernel_rfl)) (fun _ _ _ h => hQp _ _ _ _ _ h) (Or.inl ⟨by rfl, ?_⟩) ?_ ?_
  rotate_left
  · intro w'
    go_simp
    with_reducible rfl
  rotate_left
  · simp only [Act.put, List.setIfInBounds_toArray, List.set_cons_zero, List.set_cons_succ, i64_w, i32_w]
    rfl
  refine take_ (i := 1) (N := some 25) (v := ?_) (a' := ?_) #[true, true, true, false, false, false, true, false, true, false, false, false, true, false, true, false, false, false, false, false, false, false] rfl rfl (take_of HT_.out (by kernel_rfl)) (fun _ _ _ h => hQp _ _ _ _ _ h) (Or.inl ⟨by rfl, ?_⟩) hHeld ?_ ?_
  rotate_left
  · intro w' hs
    obtain ⟨s0, s1, s2, s3, s4, s5⟩ := sixB hs D0 D1 (by omega) (by omega)
    go_simp
    with_reducible rfl
  rotate_left
  · simp only [Act.put, List.setIfInBounds_toArray, List.set_cons_zero, List.set_cons_succ, i64_w, i32_w]
    rfl
  refine take_ (i := 3) (N := some 27) (v := ?_) (a' := ?_) #[true, true, true, true, false, false, true, false, true, false, false, false, true, false, true, false, false, false, false, false, false, false] rfl rfl (take_of HT_.out (by kernel_rfl)) (fun _ _ _ h => hQp _ _ _ _ _ h) (Or.inl ⟨by rfl, ?_⟩) hHeld ?_ ?_
  rotate_left
  · intro w' hs
    obtain ⟨s0, s1, s2, s3, s4, s5⟩ := sixB hs D0 D1 (by omega) (by omega)
    go_simp
    with_reducible rfl
  rotate_left
  · simp only [Act.put, List.setIfInBounds_toArray, List.set_cons_zero, List.set_cons_succ, i64_w, i32_w]
    rfl
  refine take_ (i := 7) (N := some 31) (v := ?_) (a' := ?_) #[true, true, true, true, false, false, true, true, true, false, false, false, true, false, true, false, false, false, false, false, false, false] rfl rfl (take_of HT_.out (by kernel_rfl)) (fun _ _ _ h => hQp _ _ _ _ _ h) (Or.inl ⟨by rfl, ?_⟩) hHeld ?_ ?_
  rotate_left
  · intro w' hs
    obtain ⟨s0, s1, s2, s3, s4, s5⟩ := sixB hs D0 D1 (by omega) (by omega)
    go_simp
    with_reducible rfl
  rotate_left
  · simp only [Act.put, List.setIfInBounds_toArray, List.set_cons_zero, List.set_cons_succ, i64_w, i32_w]
    rfl
  refine take_ (i := 9) (N := some 33) (v := ?_) (a' := ?_) #[true, true, true, true, false, false, true, true, true, true, false, false, true, false, true, false, false, false, false, false, false, false] rfl rfl (take_of HT_.out (by kernel_rfl)) (fun _ _ _ h => hQp _ _ _ _ _ h) (Or.inl ⟨by rfl, ?_⟩) hHeld ?_ ?_
  rotate_left
  · intro w' hs
    obtain ⟨s0, s1, s2, s3, s4, s5⟩ := sixB hs D0 D1 (by omega) (by omega)
    go_simp
    with_reducible rfl
  rotate_left
  · simp only [Act.put, List.setIfInBounds_toArray, List.set_cons_zero, List.set_cons_succ, i64_w, i32_w]
    rfl
  refine take_ (i := 13) (N := some 37) (v := ?_) (a' := ?_) #[true, true, true, true, false, false, true, true, true, true, false, false, true, true, true, false, false, false, false, false, false, false] rfl rfl (take_of HT_.out (by kernel_rfl)) (fun _ _ _ h => hQp _ _ _ _ _ h) (Or.inl ⟨by rfl, ?_⟩) hHeld ?_ ?_
  rotate_left
  · intro w' hs
    obtain ⟨s0, s1, s2, s3, s4, s5⟩ := sixB hs D0 D1 (by omega) (by omega)
    go_simp
    with_reducible rfl
  rotate_left
  · simp only [Act.put, List.setIfInBounds_toArray, List.set_cons_zero, List.set_cons_succ, i64_w, i32_w]
    rfl
  refine take_ (i := 15) (N := some 39) (v := ?_) (a' := ?_) #[true, true, true, true, false, false, true, true, true, true, false, false, true, true, true, true, false, false, false, false, false, false] rfl rfl (take_of HT_.out (by kernel_rfl)) (fun _ _ _ h => hQp _ _ _ _ _ h) (Or.inl ⟨by rfl, ?_⟩) hHeld ?_ ?_
  rotate_left
  · intro w' hs
    obtain ⟨s0, s1, s2, s3, s4, s5⟩ := sixB hs D0 D1 (by omega) (by omega)
    go_simp
    with_reducible rfl
  rotate_left
  · simp only [Act.put, List.setIfInBounds_toArray, List.set_cons_zero, List.set_cons_succ, i64_w, i32_w]
    rfl
  --@S0
  simpa only [hM] using s _ _ _ _ _ _ _ hbD
set_option maxHeartbeats 16000000 in
set_option maxRecDepth 100000 in
theorem merge_any (f g : Ft) (A0 A1 A2 B0 B1 B2 : Option Addr) (a0 a1 a2 b0 b1 b2 : Nat) (w : World) (hf : FtR w A0 A1 A2 a0 a1 a2 f) (hg : FtR w B0 B1 B2 b0 b1 b2 g) (hfs : f.small) (hgs : g.small) (hfw : f.wfs) (hgw : g.wfs) :
    Calls Tryz.prog 14 #[fv A0 A1 A2 a0 a1 a2 f, fv B0 B1 B2 b0 b1 b2 g] w fun e w' => ∃ (h : Ft) (v' v0 v1 v2 : Value), e = .returned (.tuple #[v', .int .i64 (mergeC f g)]) ∧ MergeR f g h ∧ FtO w' w.heap.size v' h v0 v1 v2 ∧ Below w.heap.size w w' := by
  generalize hW : ((w.alloc (ftO A0 A1 A2 a0 a1 a2 f)).alloc (ftO B0 B1 B2 b0 b1 b2 g)).alloc zFt = w1
  have hB1 : Below w.heap.size w w1 := by rw [← hW]; exact below_alloc (below_alloc (below_alloc (Below.refl _ _) _) _) _
  have d0 : w1.heap[w.heap.size]? = some (ftO A0 A1 A2 a0 a1 a2 f) := by rw [← hW]; exact heap_old (heap_old (heap_new _ _))
  have d1 : w1.heap[w.heap.size + 1]? = some (ftO B0 B1 B2 b0 b1 b2 g) := by rw [← hW]; have := heap_new (w.alloc (ftO A0 A1 A2 a0 a1 a2 f)) (ftO B0 B1 B2 b0 b1 b2 g); rw [size_new] at this; exact heap_old this
  have d2 : w1.heap[w.heap.size + 1 + 1]? = some zFt := by rw [← hW]; have := heap_new ((w.alloc (ftO A0 A1 A2 a0 a1 a2 f)).alloc (ftO B0 B1 B2 b0 b1 b2 g)) zFt; rw [size_new, size_new] at this; exact this
  have HF0 := Aside0.mk (show ∀ W, Below w1.heap.size w1 W → Kd.C k37 W A0 f.ps.length f.ps from fun W h => Kd.C_below hf.h0 (below_step hB1 h))
  have HF1 := Aside0.mk (show ∀ W, Below w1.heap.size w1 W → Kd.C k46 W A1 f.ss.length f.ss from fun W h => Kd.C_below hf.h1 (below_step hB1 h))
  have HF2 := Aside0.mk (show ∀ W, Below w1.heap.size w1 W → Kd.C k37 W A2 f.ws.length f.ws from fun W h => Kd.C_below hf.h2 (below_step hB1 h))
  have HG0 := Aside0.mk (show ∀ W, Below w1.heap.size w1 W → Kd.C k37 W B0 g.ps.length g.ps from fun W h => Kd.C_below hg.h0 (below_step hB1 h))
  have HG1 := Aside0.mk (show ∀ W, Below w1.heap.size w1 W → Kd.C k46 W B1 g.ss.length g.ss from fun W h => Kd.C_below hg.h1 (below_step hB1 h))
  have HG2 := Aside0.mk (show ∀ W, Below w1.heap.size w1 W → Kd.C k37 W B2 g.ws.length g.ws from fun W h => Kd.C_below hg.h2 (below_step hB1 h))
  obtain ⟨ef, hef⟩ : ∃ e, e = checkS f := ⟨_, rfl⟩
  obtain ⟨eg, heg⟩ : ∃ e, e = checkS g := ⟨_, rfl⟩
  obtain ⟨lf, hlf⟩ : ∃ e, e = f.len := ⟨_, rfl⟩
  obtain ⟨lg, hlg⟩ : ∃ e, e = g.len := ⟨_, rfl⟩
  obtain ⟨er, her⟩ : ∃ e, e = if ef = 0 then eg else ef := ⟨_, rfl⟩
  have HKF := Aside0.mk (show ∀ W, Below w1.heap.size w1 W → Calls Tryz.prog 11 #[.agg #[.slice A0 f.ps.length a0, .slice A1 f.ss.length a1, .slice A2 f.ws.length a2]] W fun e w' => e = .returned (.int .i64 ef) ∧ Below W.heap.size W w' from fun W h => by rw [hef]; exact checkV ⟨A0, A1, A2, a0, a1, a2, rfl, hf.below (below_step hB1 h)⟩ hfs)
  have HKG := Aside0.mk (show ∀ W, Below w1.heap.size w1 W → Calls Tryz.prog 11 #[.agg #[.slice B0 g.ps.length b0, .slice B1 g.ss.length b1, .slice B2 g.ws.length b2]] W fun e w' => e = .returned (.int .i64 eg) ∧ Below W.heap.size W w' from fun W h => by rw [heg]; exact checkV ⟨B0, B1, B2, b0, b1, b2, rfl, hg.below (below_step hB1 h)⟩ hgs)
  have HSF := Aside0.mk (show ∀ W, Below w1.heap.size w1 W → Calls Tryz.prog 25 #[.agg #[.slice A0 f.ps.length a0, .slice A1 f.ss.length a1, .slice A2 f.ws.length a2]] W fun e w' => e = .returned (.int .i64 (lf : Int)) ∧ Below W.heap.size W w' from fun W h => by rw [hlf]; exact sizeV ⟨A0, A1, A2, a0, a1, a2, rfl, hf.below (below_step hB1 h)⟩ hfs)
  have HSG := Aside0.mk (show ∀ W, Below w1.heap.size w1 W → Calls Tryz.prog 25 #[.agg #[.slice B0 g.ps.length b0, .slice B1 g.ss.length b1, .slice B2 g.ws.length b2]] W fun e w' => e = .returned (.int .i64 (lg : Int)) ∧ Below W.heap.size W w' from fun W h => by rw [hlg]; exact sizeV ⟨B0, B1, B2, b0, b1, b2, rfl, hg.below (below_step hB1 h)⟩ hgs)
  have HOr := Aside0.mk (show ∀ (W : World) (bx : Nat), W.heap[bx]? = some (.cells #[.int .i64 ef, .int .i64 eg] 26 (0, 0)) → Calls Tryz.prog 31 #[.slice (some ⟨bx, 0, none⟩) 2 2] W fun e w' => e = .returned (.int .i64 er) ∧ Below W.heap.size W w' from fun W bx hx => by
    obtain ⟨k, hk⟩ := (orE_ev ef eg).ex
    rw [her]
    exact (api_Errno.calls k (some ⟨bx, 0, none⟩) 2 [ef, eg] _ W (C_errs (l := [ef, eg]) hx) (Nat.le_refl _) hk).mono fun e w' h => ⟨h.1, h.2.below⟩)
  have HCode := Aside0.mk (show mergeC f g = (if er = 0 then (if lf + lg > 65536 then 2 else 0) else er) by rw [her, hef, heg, hlf, hlg]; exact merge_err)
  have HOk := Aside0.mk (show er = 0 → lf ≤ 65536 ∧ lg ≤ 65536 from fun h => by
    rw [her] at h
    by_cases h0 : ef = 0
    · rw [if_pos h0] at h
      have l0 := check_len (hef.symm.trans h0)
      have l1 := check_len (heg.symm.trans h)
      rw [hlf, hlg]
      exact ⟨l0, l1⟩
    · rw [if_neg h0] at h; exact absurd h h0)
  have HLen := Aside0.mk (show lf = f.ps.length + f.ss.length + f.ws.length ∧ lg = g.ps.length + g.ss.length + g.ws.length from ⟨hlf, hlg⟩)
  have HWf := Aside0.mk (app_wfs hfw hgw)
  have HB1 := Aside0.mk hB1
  have D0 := Aside0.mk d0
  have D1 := Aside0.mk d1
  have D2 := Aside0.mk d2
  unfold ftO at hW D0 D1
  unfold zFt at hW D2
  have HW := Aside0.mk hW
  have HNO := Aside0.mk (show ∀ (W : World) (C0 C1 C2 : Option Addr) (c0 c1 c2 : Nat), lf + lg ≤ 65536 → Kd.R k37 37 W w1.heap.size (fun _ => True) (.slice C0 (f.ps.length + g.ps.length) c0) (f.ps ++ g.ps) → Kd.R k46 46 W w1.heap.size (fun _ => True) (.slice C1 (f.ss.length + g.ss.length) c1) (f.ss ++ g.ss) → Kd.R k37 37 W w1.heap.size (fun _ => True) (.slice C2 (f.ws.length + g.ws.length) c2) (f.ws ++ g.ws) →
    Calls Tryz.prog 20 #[.agg #[.slice C0 (f.ps.length + g.ps.length) c0, .slice C1 (f.ss.length + g.ss.length) c1, .slice C2 (f.ws.length + g.ws.length) c2]] W fun e w' => ∃ (h : Ft) (pl : List SPl) (v v0 v1 v2 : Value), e = .returned v ∧ NormOf (f.app g) h pl ∧ FtO w' W.heap.size v h v0 v1 v2 ∧ Below W.heap.size W w' from fun W C0 C1 C2 c0 c1 c2 hl h0 h1 h2 => by
      have hn := app_len (f := f) (g := g) (by rw [← hlf, ← hlg]; exact hl)
      have r0 := (Kd.R_reads' h0).2
      have r1 := (Kd.R_reads' h1).2
      have r2 := (Kd.R_reads' h2).2
      rw [← List.length_append] at r0 r1 r2 ⊢
      rw [← List.length_append, ← List.length_append]
      exact norm_any (f.app g) C0 C1 C2 c0 c1 c2 W ⟨r0.2, r0.1, r1.2, r1.1, r2.2, r2.1⟩ (app_wfs hfw hgw).1 (app_wfs hfw hgw).2 hn)
  clear hW hB1 d0 d1 d2 hf hg hfs hgs hfw hgw hef heg hlf hlg her
  have hl3 := HLen.out
  unfold fv
  generalize f.ps = fp at *
  generalize f.ss = fs at *
  generalize f.ws = fw at *
  generalize g.ps = gp at *
  generalize g.ss = gs at *
  generalize g.ws = gw at *
  generalize hm0 : fp.length = m0 at *
  generalize hm1 : fs.length = m1 at *
  generalize hm2 : fw.length = m2 at *
  generalize hn0 : gp.length = n0 at *
  generalize hn1 : gs.length = n1 at *
  generalize hn2 : gw.length = n2 at *
  have HM := Aside0.mk (show (m0 = fp.length ∧ m1 = fs.length ∧ m2 = fw.length) ∧ n0 = gp.length ∧ n1 = gs.length ∧ n2 = gw.length from ⟨⟨hm0.symm, hm1.symm, hm2.symm⟩, hn0.symm, hn1.symm, hn2.symm⟩)
  clear hm0 hm1 hm2 hn0 hn1 hn2 hl3
  have HSl := Aside0.mk (allSl (a := .slice none 0 0) (b := .slice none 0 0) (c := .slice none 0 0) rfl rfl rfl)
  go_enter Tryz.func14, Tryz.ntmps14
  --@A
  go_wp2_with fail
  rw [HW.out]
  clear HW
  have hbD := below_drew1 (Below.refl w1.heap.size w1)
  refine start_ (n := 7) (S := fun w' => w'.cell? ⟨w.heap.size, 0, none⟩ = some (.slice A0 m0 a0) ∧ w'.cell? ⟨w.heap.size, 1, none⟩ = some (.slice A1 m1 a1) ∧ w'.cell? ⟨w.heap.size, 2, none⟩ = some (.slice A2 m2 a2) ∧ w'.cell? ⟨w.heap.size + 1, 0, none⟩ = some (.slice B0 n0 b0) ∧ w'.cell? ⟨w.heap.size + 1, 1, none⟩ = some (.slice B1 n1 b1) ∧ w'.cell? ⟨w.heap.size + 1, 2, none⟩ = some (.slice B2 n2 b2)) (ds := []) #[false, false, false, false, false, false, false] (by kernel_rfl) rfl rfl (six hbD D0.out D1.out) (fun hHeld => ?_); refine with_tab tab14_1 (fun HT_ => ?_)
  generalize w1.drew = w2 at hbD hHeld ⊢
  have HC2 := Aside0.mk hbD
  clear hbD
  refine take_ (i := 0) (N := some 7) (v := ?_) (a' := ?_) #[true, false, false, false, false, false, false] rfl rfl (take_of HT_.out (by kernel_rfl)) (fun _ _ _ h => h) (Or.inl ⟨by rfl, ?_⟩) hHeld ?_ ?_
  rotate_left
  · rintro w' ⟨s0, s1, s2, s3, s4, s5⟩
    go_simp
    with_reducible rfl
  rotate_left
  · simp only [Act.put, List.setIfInBounds_toArray, List.set_cons_zero, List.set_cons_succ, i64_w, i32_w]
    rfl
  refine take_ (i := 2) (N := some 9) (v := ?_) (a' := ?_) #[true, false, true, false, false, false, false] rfl rfl (take_of HT_.out (by kernel_rfl)) (fun _ _ _ h => h) (Or.inl ⟨by rfl, ?_⟩) hHeld ?_ ?_
  rotate_left
  · rintro w' ⟨s0, s1, s2, s3, s4, s5⟩
    go_simp
    with_reducible rfl
  rotate_left
  · simp only [Act.put, List.setIfInBounds_toArray, List.set_cons_zero, List.set_cons_succ, i64_w, i32_w]
    rfl
  refine one_ (i := 1) (N := some 8) #[true, true, true, false, false, false, false] rfl rfl (one_of HT_.out (by kernel_rfl)) (by decide) (fun K hK => ?_)
  refine goes_ Tryz.func11 (by kernel_rfl) rfl #[.agg #[.slice A0 m0 a0, .slice A1 m1 a1, .slice A2 m2 a2]] (by rfl) rfl rfl (by (try simp only [List.map_toArray, List.map_cons, List.map_nil]); first | done | rfl) ?_
  refine (HKF.out w2 HC2.out).mono ?_
  rintro e w3 ⟨rfl, hb⟩
  refine ⟨_, rfl, ?_⟩
  have HC3 := Aside0.mk (below_step HC2.out hb)
  clear hb hHeld
  refine hK.out _ _ (six HC3.out D0.out D1.out) (fun hHeld => ?_)
  clear hK K
  refine norm_ (a' := ?_) ?_ ?_
  rotate_left
  · show Act.put _ (some 8) _ = _
    simp only [Act.put, List.setIfInBounds_toArray, List.set_cons_zero, List.set_cons_succ, i64_w, i32_w]
    rfl
  refine one_ (i := 3) (N := some 10) #[true, true, true, true, false, false, false] rfl rfl (one_of HT_.out (by kernel_rfl)) (by decide) (fun K hK => ?_)
  refine goes_ Tryz.func11 (by kernel_rfl) rfl #[.agg #[.slice B0 n0 b0, .slice B1 n1 b1, .slice B2 n2 b2]] (by rfl) rfl rfl (by (try simp only [List.map_toArray, List.map_cons, List.map_nil]); first | done | rfl) ?_
  refine (HKG.out w3 HC3.out).mono ?_
  rintro e w4 ⟨rfl, hb⟩
  refine ⟨_, rfl, ?_⟩
  have HC4 := Aside0.mk (below_step HC3.out hb)
  clear hb hHeld
  refine hK.out _ _ (six HC4.out D0.out D1.out) (fun hHeld => ?_)
  clear hK K
  refine norm_ (a' := ?_) ?_ ?_
  rotate_left
  · show Act.put _ (some 10) _ = _
    simp only [Act.put, List.setIfInBounds_toArray, List.set_cons_zero, List.set_cons_succ, i64_w, i32_w]
    rfl
  refine one_ (i := 4) (N := some 11) #[true, true, true, true, true, false, false] rfl rfl (one_of HT_.out (by kernel_rfl)) (by decide) (fun K hK => ?_)
  have hbA := below_alloc (Below.refl w4.heap.size w4) (.cells #[.int .i64 ef, .int .i64 eg] 26)
  have hNw := heap_new w4 (.cells #[.int .i64 ef, .int .i64 eg] 26)
  refine value_ (w1 := ?_) (v := ?_) (by rfl) rfl ?_ ?_
  rotate_left
  rotate_left
  · go_simp
    constructor
    · rfl
    · rfl
  show K _ (w4.alloc (.cells #[.int .i64 ef, .int .i64 eg] 26))
  have hb := hbA
  have HC5 := Aside0.mk (below_step HC4.out hb)
  generalize hbx : w4.heap.size = bx at hNw hb ⊢
  generalize w4.alloc (.cells #[.int .i64 ef, .int .i64 eg] 26) = w5 at hNw hb HC5 ⊢
  have HNw := Aside0.mk hNw
  clear hbA hbx hNw hb hHeld
  refine hK.out _ _ (six HC5.out D0.out D1.out) (fun hHeld => ?_)
  clear hK K
  refine norm_ (a' := ?_) ?_ ?_
  rotate_left
  · show Act.put _ (some 11) _ = _
    simp only [Act.put, List.setIfInBounds_toArray, List.set_cons_zero, List.set_cons_succ, i64_w, i32_w]
    rfl
  refine one_ (i := 5) (N := some 12) #[true, true, true, true, true, true, false] rfl rfl (one_of HT_.out (by kernel_rfl)) (by decide) (fun K hK => ?_)
  refine goes_ Tryz.func31 (by kernel_rfl) rfl #[.slice (some ⟨bx, 0, none⟩) 2 2] (by rfl) rfl rfl (by (try simp only [List.map_toArray, List.map_cons, List.map_nil]); first | done | rfl) ?_
  refine (HOr.out w5 bx HNw.out).mono ?_
  rintro e w6 ⟨rfl, hb⟩
  refine ⟨_, rfl, ?_⟩
  have HC6 := Aside0.mk (below_step HC5.out hb)
  clear hb hHeld
  refine hK.out _ _ (six HC6.out D0.out D1.out) (fun hHeld => ?_)
  clear hK K
  refine norm_ (a' := ?_) ?_ ?_
  rotate_left
  · show Act.put _ (some 12) _ = _
    simp only [Act.put, List.setIfInBounds_toArray, List.set_cons_zero, List.set_cons_succ, i64_w, i32_w]
    rfl
  refine pure_ (i := 6) (N := some 6) (v := ?_) (a' := ?_) #[true, true, true, true, true, true, true] rfl rfl (any_of HT_.out (by kernel_rfl)) (fun _ _ _ h => h) (Or.inl ⟨by rfl, ?_⟩) ?_ ?_
  rotate_left
  · intro w'
    go_simp
    with_reducible rfl
  rotate_left
  · simp only [Act.put, List.setIfInBounds_toArray, List.set_cons_zero, List.set_cons_succ, i64_w, i32_w]
    rfl
  refine done_ (done_of HT_.out (by kernel_rfl)) ?_
  clear hHeld HT_ HKF HKG HOr HNw
  --@B
  by_cases hc : er = 0
  · subst hc
    have hlo := HOk.out rfl
    have hlf : lf ≤ 65536 := hlo.1
    have hlg : lg ≤ 65536 := hlo.2
    have hcode := HCode.out
    rw [if_pos rfl] at hcode
    have HCo := Aside0.mk hcode
    clear hlo hcode HCode HOk
    go_wp2_with fail
    --@C
    have hbD := below_step HC6.out (below_drew1 (Below.refl w6.heap.size w6))
    refine start_ (n := 6) (S := fun w' => w'.cell? ⟨w.heap.size, 0, none⟩ = some (.slice A0 m0 a0) ∧ w'.cell? ⟨w.heap.size, 1, none⟩ = some (.slice A1 m1 a1) ∧ w'.cell? ⟨w.heap.size, 2, none⟩ = some (.slice A2 m2 a2) ∧ w'.cell? ⟨w.heap.size + 1, 0, none⟩ = some (.slice B0 n0 b0) ∧ w'.cell? ⟨w.heap.size + 1, 1, none⟩ = some (.slice B1 n1 b1) ∧ w'.cell? ⟨w.heap.size + 1, 2, none⟩ = some (.slice B2 n2 b2)) (ds := []) #[false, false, false, false, false, false] (by kernel_rfl) rfl rfl (six hbD D0.out D1.out) (fun hHeld => ?_); refine with_tab tab14_4 (fun HT_ => ?_)
    generalize w6.drew = w7 at hbD hHeld ⊢
    have HC7 := Aside0.mk hbD
    clear hbD
    refine take_ (i := 0) (N := some 17) (v := ?_) (a' := ?_) #[true, false, false, false, false, false] rfl rfl (take_of HT_.out (by kernel_rfl)) (fun _ _ _ h => h) (Or.inl ⟨by rfl, ?_⟩) hHeld ?_ ?_
    rotate_left
    · rintro w' ⟨s0, s1, s2, s3, s4, s5⟩
      go_simp
      with_reducible rfl
    rotate_left
    · simp only [Act.put, List.setIfInBounds_toArray, List.set_cons_zero, List.set_cons_succ, i64_w, i32_w]
      rfl
    refine take_ (i := 2) (N := some 19) (v := ?_) (a' := ?_) #[true, false, true, false, false, false] rfl rfl (take_of HT_.out (by kernel_rfl)) (fun _ _ _ h => h) (Or.inl ⟨by rfl, ?_⟩) hHeld ?_ ?_
    rotate_left
    · rintro w' ⟨s0, s1, s2, s3, s4, s5⟩
      go_simp
      with_reducible rfl
    rotate_left
    · simp only [Act.put, List.setIfInBounds_toArray, List.set_cons_zero, List.set_cons_succ, i64_w, i32_w]
      rfl
    refine one_ (i := 1) (N := some 18) #[true, true, true, false, false, false] rfl rfl (one_of HT_.out (by kernel_rfl)) (by decide) (fun K hK => ?_)
    refine goes_ Tryz.func25 (by kernel_rfl) rfl #[.agg #[.slice A0 m0 a0, .slice A1 m1 a1, .slice A2 m2 a2]] (by rfl) rfl rfl (by (try simp only [List.map_toArray, List.map_cons, List.map_nil]); first | done | rfl) ?_
    refine (HSF.out w7 HC7.out).mono ?_
    rintro e w8 ⟨rfl, hb⟩
    refine ⟨_, rfl, ?_⟩
    have HC8 := Aside0.mk (below_step HC7.out hb)
    clear hb hHeld
    refine hK.out _ _ (six HC8.out D0.out D1.out) (fun hHeld => ?_)
    clear hK K
    refine norm_ (a' := ?_) ?_ ?_
    rotate_left
    · show Act.put _ (some 18) _ = _
      simp only [Act.put, List.setIfInBounds_toArray, List.set_cons_zero, List.set_cons_succ, i64_w, i32_w]
      rfl
    refine one_ (i := 3) (N := some 20) #[true, true, true, true, false, false] rfl rfl (one_of HT_.out (by kernel_rfl)) (by decide) (fun K hK => ?_)
    refine goes_ Tryz.func25 (by kernel_rfl) rfl #[.agg #[.slice B0 n0 b0, .slice B1 n1 b1, .slice B2 n2 b2]] (by rfl) rfl rfl (by (try simp only [List.map_toArray, List.map_cons, List.map_nil]); first | done | rfl) ?_
    refine (HSG.out w8 HC8.out).mono ?_
    rintro e w9 ⟨rfl, hb⟩
    refine ⟨_, rfl, ?_⟩
    have HC9 := Aside0.mk (below_step HC8.out hb)
    clear hb hHeld
    refine hK.out _ _ (six HC9.out D0.out D1.out) (fun hHeld => ?_)
    clear hK K
    refine norm_ (a' := ?_) ?_ ?_
    rotate_left
    · show Act.put _ (some 20) _ = _
      simp only [Act.put, List.setIfInBounds_toArray, List.set_cons_zero, List.set_cons_succ, i64_w, i32_w]
      rfl
    refine pure_ (i := 4) (N := some 21) (v := ?_) (a' := ?_) #[true, true, true, true, true, false] rfl rfl (any_of HT_.out (by kernel_rfl)) (fun _ _ _ h => h) (Or.inl ⟨by rfl, ?_⟩) ?_ ?_
    rotate_left
    · intro w'
      go_simp
      with_reducible rfl
    rotate_left
    · simp only [Act.put, List.setIfInBounds_toArray, List.set_cons_zero, List.set_cons_succ, i64_w, i32_w]
      rfl
    refine pure_ (i := 5) (N := some 22) (v := ?_) (a' := ?_) #[true, true, true, true, true, true] rfl rfl (any_of HT_.out (by kernel_rfl)) (fun _ _ _ h => h) (Or.inl ⟨by rfl, ?_⟩) ?_ ?_
    rotate_left
    · intro w'
      go_simp
      with_reducible rfl
    rotate_left
    · simp only [Act.put, List.setIfInBounds_toArray, List.set_cons_zero, List.set_cons_succ, i64_w, i32_w]
      rfl
    refine done_ (done_of HT_.out (by kernel_rfl)) ?_
    clear hHeld HT_ HSF HSG
    rw [wrap64_id (n := (lf : Int) + (lg : Int)) (by omega) (by omega)]
    --@D
    by_cases hc : lf + lg > 65536
    · have hcz : (65536 : Int) < (lf : Int) + (lg : Int) := by omega
      have hcode := HCo.out
      rw [if_pos hc] at hcode
      clear HCo
      have HCo := Aside0.mk hcode
      clear hcode
      have HX9 := Aside0.mk ((HC9.out.block _ (lt_of D2.out)).trans D2.out)
      have j0 : w9.cell? ⟨w.heap.size + 1 + 1, 0, none⟩ = some (.slice none 0 0) := cell_of HX9.out 0
      have j1 : w9.cell? ⟨w.heap.size + 1 + 1, 1, none⟩ = some (.slice none 0 0) := cell_of HX9.out 1
      have j2 : w9.cell? ⟨w.heap.size + 1 + 1, 2, none⟩ = some (.slice none 0 0) := cell_of HX9.out 2
      have k0 : w9.frozen? ⟨w.heap.size + 1 + 1, 0, none⟩ = false := frozen_of HX9.out 0
      have k1 : w9.frozen? ⟨w.heap.size + 1 + 1, 1, none⟩ = false := frozen_of HX9.out 1
      have k2 : w9.frozen? ⟨w.heap.size + 1 + 1, 2, none⟩ = false := frozen_of HX9.out 2
      have HB9 := Aside0.mk (below_step HB1.out HC9.out)
      go_wp2
      refine bodyPost_ret (results_ct rfl _ _ (w.heap.size + 1 + 1) 25 #[.slice none 0 0, .slice none 0 0, .slice none 0 0] (0, 0) _ rfl (setCell_heap (setCell_heap (setCell_heap HX9.out _) _) _) Tryz.underlying25 rfl (by kernel_rfl)) rfl ?_
      have hb : Below w.heap.size w (((w9.setCell ⟨w.heap.size + 1 + 1, 0, none⟩ (.slice none 0 0)).setCell ⟨w.heap.size + 1 + 1, 1, none⟩ (.slice none 0 0)).setCell ⟨w.heap.size + 1 + 1, 2, none⟩ (.slice none 0 0)) := ((HB9.out.setCell (p := ⟨w.heap.size + 1 + 1, 0, none⟩) (by show w.heap.size ≤ w.heap.size + 1 + 1; omega) _).setCell (p := ⟨w.heap.size + 1 + 1, 1, none⟩) (by show w.heap.size ≤ w.heap.size + 1 + 1; omega) _).setCell (p := ⟨w.heap.size + 1 + 1, 2, none⟩) (by show w.heap.size ≤ w.heap.size + 1 + 1; omega) _
      exact ⟨Ft.nil, _, _, _, _, (by rw [HCo.out]; rfl), .inr ⟨by rw [HCo.out]; decide, rfl⟩, FtO.nil _ _, hb⟩
    · have hcz : ¬ (65536 : Int) < (lf : Int) + (lg : Int) := by omega
      have hcode := HCo.out
      rw [if_neg hc] at hcode
      clear HCo
      have HCo := Aside0.mk hcode
      have HCl := Aside0.mk (Nat.le_of_not_lt hc)
      clear hcode hc
      go_wp2_with fail
      --@E
      refine merge_reg (t2 := undef) (t3 := undef) (t4 := undef) HM.out HLen.out HCl.out HNO.out HF0.out HF1.out HF2.out HG0.out HG1.out HG2.out D0.out D1.out D2.out (HC9.out) (fun _ _ d _ _ h => by cases d <;> exact h) (fun w10 h pl C0 C1 C2 c0 c1 c2 x24 x25 x26 x27 x28 x29 x30 x31 x32 x33 x34 x35 x36 x37 x38 x39 x40 x41 x42 x43 hno ho hc hx3 => ?_)
      have HO := Aside0.mk ho
      have HNo := Aside0.mk hno
      have HX := Aside0.mk hx3
      have HC := Aside0.mk hc
      clear ho hno hx3 hc
      --@G
      go_wp2
      refine bodyPost_ret (results_ct rfl _ _ (w.heap.size + 1 + 1) 25 #[.slice C0 h.ps.length c0, .slice C1 h.ss.length c1, .slice C2 h.ws.length c2] (0, 0) _ rfl HX.out Tryz.underlying25 rfl (by kernel_rfl)) rfl ?_
      exact ⟨h, _, _, _, _, (by rw [HCo.out]; rfl), .inl ⟨HCo.out, pl, HNo.out⟩, HO.out.lower (HB1.out.size), Below.trans HB1.out HC.out⟩
  · have hcode := HCode.out
    rw [if_neg hc] at hcode
    have hcb : (er == 0) = false := by simpa using hc
    have HCo := Aside0.mk hcode
    clear hcode
    have HX6 := Aside0.mk ((HC6.out.block _ (lt_of D2.out)).trans D2.out)
    have j0 : w6.cell? ⟨w.heap.size + 1 + 1, 0, none⟩ = some (.slice none 0 0) := cell_of HX6.out 0
    have j1 : w6.cell? ⟨w.heap.size + 1 + 1, 1, none⟩ = some (.slice none 0 0) := cell_of HX6.out 1
    have j2 : w6.cell? ⟨w.heap.size + 1 + 1, 2, none⟩ = some (.slice none 0 0) := cell_of HX6.out 2
    have k0 : w6.frozen? ⟨w.heap.size + 1 + 1, 0, none⟩ = false := frozen_of HX6.out 0
    have k1 : w6.frozen? ⟨w.heap.size + 1 + 1, 1, none⟩ = false := frozen_of HX6.out 1
    have k2 : w6.frozen? ⟨w.heap.size + 1 + 1, 2, none⟩ = false := frozen_of HX6.out 2
    have HB6 := Aside0.mk (below_step HB1.out HC6.out)
    go_wp2
    refine bodyPost_ret (results_ct rfl _ _ (w.heap.size + 1 + 1) 25 #[.slice none 0 0, .slice none 0 0, .slice none 0 0] (0, 0) _ rfl (setCell_heap (setCell_heap (setCell_heap HX6.out _) _) _) Tryz.underlying25 rfl (by kernel_rfl)) rfl ?_
    have hb : Below w.heap.size w (((w6.setCell ⟨w.heap.size + 1 + 1, 0, none⟩ (.slice none 0 0)).setCell ⟨w.heap.size + 1 + 1, 1, none⟩ (.slice none 0 0)).setCell ⟨w.heap.size + 1 + 1, 2, none⟩ (.slice none 0 0)) := ((HB6.out.setCell (p := ⟨w.heap.size + 1 + 1, 0, none⟩) (by show w.heap.size ≤ w.heap.size + 1 + 1; omega) _).setCell (p := ⟨w.heap.size + 1 + 1, 1, none⟩) (by show w.heap.size ≤ w.heap.size + 1 + 1; omega) _).setCell (p := ⟨w.heap.size + 1 + 1, 2, none⟩) (by show w.heap.size ≤ w.heap.size + 1 + 1; omega) _
    exact ⟨Ft.nil, _, _, _, _, (by rw [HCo.out]; rfl), .inr ⟨by rw [HCo.out]; exact hc, rfl⟩, FtO.nil _ _, hb⟩
end Go.Proofs.YtldlenjfpjihdaaGreat.PS
end
