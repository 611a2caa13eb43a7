/- SetsMerges: the law returns true at every input, and its arguments read as before. Conditions: as the row has them. -/
import Derived.Test.YtldlenjfpjihdaaGreatKSetsMerges4
section
namespace Go.Proofs.YtldlenjfpjihdaaGreat.PS
open Go Go.RowKit Go.Proofs Go.Maps Go.WideMaps Go.Proofs.YtldlenjfpjihdaaGreatW.PrintWords Go.Proofs.YtldlenjfpjihdaaGreatW.PrintLast Go.Proofs.YtldlenjfpjihdaaGreatW.PrintMore
set_option linter.unusedVariables false
set_option linter.unusedSimpArgs false
def T15_7 : Bool × List (List Nat × List Nat) := (true, [([], []), ([0], [0]), ([], []), ([2, 1], [2]), ([1, 3], [1, 3]), ([4], [4])])
theorem tab15_7 : rtab .any (opsOf Tryz.f15 7) = T15_7 := by kernel_rfl
theorem rsizeV {w : World} {v : Value} {f : Ft} (h : FtV w v f) (hs : f.small) : Calls Tryz.prog 29 #[v] w fun e w' => e = .returned (.int .i64 (f.len : Int)) ∧ Below w.heap.size w w' := by
  obtain ⟨A0, A1, A2, c0, c1, c2, rfl, h⟩ := h
  exact (vellumref17_size.calls A0 c0 f.ps A1 c1 f.ss A2 c2 f.ws _ w h.h0 h.l0 h.h1 h.l1 h.h2 h.l2 (size_ev f hs)).mono fun e w' h => ⟨h.1, h.2⟩
set_option maxHeartbeats 16000000 in
set_option maxRecDepth 100000 in
theorem rmerge_any (f g : Ft) (A0 A1 A2 B0 B1 B2 : Option Addr) (a0 a1 a2 b0 b1 b2 : Nat) (w : World) (hf : FtR w A0 A1 A2 a0 a1 a2 f) (hg : FtR w B0 B1 B2 b0 b1 b2 g) (hfs : f.small) (hgs : g.small) :
    Calls Tryz.prog 15 #[fv A0 A1 A2 a0 a1 a2 f, fv B0 B1 B2 b0 b1 b2 g] w fun e w' => ∃ (h : Ft) (v' : Value), e = .returned (.tuple #[v', .int .i64 (mergeC f g)]) ∧ MergeR f g h ∧ FtV w' v' h ∧ Below w.heap.size w w' := by
  generalize hW : ((w.alloc (ftO A0 A1 A2 a0 a1 a2 f)).alloc (ftO B0 B1 B2 b0 b1 b2 g)).alloc zFt = w1
  have hB1 : Below w.heap.size w w1 := by rw [← hW]; exact below_alloc (below_alloc (below_alloc (Below.refl _ _) _) _) _
  have d0 : w1.heap[w.heap.size]? = some (ftO A0 A1 A2 a0 a1 a2 f) := by rw [← hW]; exact heap_old (heap_old (heap_new _ _))
  have d1 : w1.heap[w.heap.size + 1]? = some (ftO B0 B1 B2 b0 b1 b2 g) := by rw [← hW]; have := heap_new (w.alloc (ftO A0 A1 A2 a0 a1 a2 f)) (ftO B0 B1 B2 b0 b1 b2 g); rw [size_new] at this; exact heap_old this
  have d2 : w1.heap[w.heap.size + 1 + 1]? = some zFt := by rw [← hW]; have := heap_new ((w.alloc (ftO A0 A1 A2 a0 a1 a2 f)).alloc (ftO B0 B1 B2 b0 b1 b2 g)) zFt; rw [size_new, size_new] at this; exact this
  obtain ⟨ef, hef⟩ : ∃ e, e = checkS f := ⟨_, rfl⟩
  obtain ⟨eg, heg⟩ : ∃ e, e = checkS g := ⟨_, rfl⟩
  obtain ⟨lf, hlf⟩ : ∃ e, e = f.len := ⟨_, rfl⟩
  obtain ⟨lg, hlg⟩ : ∃ e, e = g.len := ⟨_, rfl⟩
  have HKF := Aside0.mk (show ∀ W, Below w1.heap.size w1 W → Calls Tryz.prog 12 #[.agg #[.slice A0 f.ps.length a0, .slice A1 f.ss.length a1, .slice A2 f.ws.length a2]] W fun e w' => e = .returned (.int .i64 ef) ∧ Below W.heap.size W w' from fun W h => by rw [hef]; exact rcheckV ⟨A0, A1, A2, a0, a1, a2, rfl, hf.below (below_step hB1 h)⟩ hfs)
  have HKG := Aside0.mk (show ∀ W, Below w1.heap.size w1 W → Calls Tryz.prog 12 #[.agg #[.slice B0 g.ps.length b0, .slice B1 g.ss.length b1, .slice B2 g.ws.length b2]] W fun e w' => e = .returned (.int .i64 eg) ∧ Below W.heap.size W w' from fun W h => by rw [heg]; exact rcheckV ⟨B0, B1, B2, b0, b1, b2, rfl, hg.below (below_step hB1 h)⟩ hgs)
  have HSF := Aside0.mk (show ∀ W, Below w1.heap.size w1 W → Calls Tryz.prog 29 #[.agg #[.slice A0 f.ps.length a0, .slice A1 f.ss.length a1, .slice A2 f.ws.length a2]] W fun e w' => e = .returned (.int .i64 (lf : Int)) ∧ Below W.heap.size W w' from fun W h => by rw [hlf]; exact rsizeV ⟨A0, A1, A2, a0, a1, a2, rfl, hf.below (below_step hB1 h)⟩ hfs)
  have HSG := Aside0.mk (show ∀ W, Below w1.heap.size w1 W → Calls Tryz.prog 29 #[.agg #[.slice B0 g.ps.length b0, .slice B1 g.ss.length b1, .slice B2 g.ws.length b2]] W fun e w' => e = .returned (.int .i64 (lg : Int)) ∧ Below W.heap.size W w' from fun W h => by rw [hlg]; exact rsizeV ⟨B0, B1, B2, b0, b1, b2, rfl, hg.below (below_step hB1 h)⟩ hgs)
  have HCode := Aside0.mk (show mergeC f g = (if ef = 0 then (if eg = 0 then (if lf + lg > 65536 then 2 else 0) else eg) else ef) by
    rw [hef, heg, hlf, hlg]
    unfold mergeC
    by_cases h : checkS f = 0 <;> by_cases h' : checkS g = 0 <;> simp [h, h'])
  have HOk0 := Aside0.mk (show ef = 0 → lf ≤ 65536 from fun h => by rw [hlf]; exact check_len (hef.symm.trans h))
  have HOk1 := Aside0.mk (show eg = 0 → lg ≤ 65536 from fun h => by rw [hlg]; exact check_len (heg.symm.trans h))
  have HLen := Aside0.mk (show lf = f.ps.length + f.ss.length + f.ws.length ∧ lg = g.ps.length + g.ss.length + g.ws.length from ⟨hlf, hlg⟩)
  have HB1 := Aside0.mk hB1
  have D0 := Aside0.mk d0
  have D1 := Aside0.mk d1
  have D2 := Aside0.mk d2
  unfold ftO at hW D0 D1
  unfold zFt at hW D2
  have HW := Aside0.mk hW
  have HBo := Aside0.mk (show ∀ (W : World), Below w1.heap.size w1 W → lf + lg ≤ 65536 → Calls Tryz.prog 21 #[.agg #[.slice A0 f.ps.length a0, .slice A1 f.ss.length a1, .slice A2 f.ws.length a2], .agg #[.slice B0 g.ps.length b0, .slice B1 g.ss.length b1, .slice B2 g.ws.length b2]] W fun e w' => ∃ (C0 C1 C2 : Option Addr) (c0 c1 c2 : Nat), e = .returned (.agg #[.slice C0 (f.app g).ps.length c0, .slice C1 (f.app g).ss.length c1, .slice C2 (f.app g).ws.length c2]) ∧ FtR w' C0 C1 C2 c0 c1 c2 (f.app g) ∧ Below W.heap.size W w' from fun W h hl => by
    have hf' := hf.below (below_step hB1 h)
    have hg' := hg.below (below_step hB1 h)
    have hn := app_len (f := f) (g := g) (by rw [← hlf, ← hlg]; exact hl)
    obtain ⟨k, hk⟩ := (both_ev f.ps f.ss f.ws g.ps g.ss g.ws (by rw [hlf, hlg] at hl; unfold Ft.len at hl; omega) (by rw [hlf, hlg] at hl; unfold Ft.len at hl; omega) (by rw [hlf, hlg] at hl; unfold Ft.len at hl; omega)).ex
    refine (vellumref17_both.calls k A0 a0 f.ps A1 a1 f.ss A2 a2 f.ws B0 b0 g.ps B1 b1 g.ss B2 b2 g.ws _ _ _ W hf'.h0 hf'.l0 hf'.h1 hf'.l1 hf'.h2 hf'.l2 hg'.h0 hg'.l0 hg'.h1 hg'.l1 hg'.h2 hg'.l2 hk).mono ?_
    rintro e w' ⟨v0, v1, v2, rfl, r0, r1, r2, hb⟩
    obtain ⟨C0, c0, rfl⟩ := Kd.R_slice r0
    obtain ⟨C1, c1, rfl⟩ := Kd.R_slice r1
    obtain ⟨C2, c2, rfl⟩ := Kd.R_slice r2
    exact ⟨C0, C1, C2, c0, c1, c2, rfl, ⟨(Kd.R_reads' r0).2.2, (Kd.R_reads' r0).2.1, (Kd.R_reads' r1).2.2, (Kd.R_reads' r1).2.1, (Kd.R_reads' r2).2.2, (Kd.R_reads' r2).2.1⟩, hb⟩)
  have HNO := Aside0.mk (show ∀ (W : World) (C0 C1 C2 : Option Addr) (c0 c1 c2 : Nat), lf + lg ≤ 65536 → FtR W C0 C1 C2 c0 c1 c2 (f.app g) →
    Calls Tryz.prog 22 #[.agg #[.slice C0 (f.app g).ps.length c0, .slice C1 (f.app g).ss.length c1, .slice C2 (f.app g).ws.length c2]] W fun e w' => ∃ (h : Ft) (pl : List SPl) (v : Value), e = .returned v ∧ NormOf (f.app g) h pl ∧ FtV w' v h ∧ Below W.heap.size W w' from fun W C0 C1 C2 c0 c1 c2 hl hr => rnormal_any (f.app g) C0 C1 C2 c0 c1 c2 W hr (app_len (f := f) (g := g) (by rw [← hlf, ← hlg]; exact hl)))
  clear hW hB1 d0 d1 d2 hf hg hfs hgs hef heg hlf hlg
  unfold fv
  have HAp := Aside0.mk (show ∃ z : Ft, z = f.app g from ⟨_, rfl⟩)
  obtain ⟨fg, hfg⟩ := HAp.out
  clear HAp
  rw [← hfg] at HBo HNO
  have HFg := Aside0.mk hfg
  clear hfg
  generalize f.ps.length = m0 at *
  generalize f.ss.length = m1 at *
  generalize f.ws.length = m2 at *
  generalize g.ps.length = n0 at *
  generalize g.ss.length = n1 at *
  generalize g.ws.length = n2 at *
  clear HLen
  have HSl := Aside0.mk (allSl (a := .slice none 0 0) (b := .slice none 0 0) (c := .slice none 0 0) rfl rfl rfl)
  go_enter Tryz.func15, Tryz.ntmps15
  --@A
  go_wp2_with fail
  rw [HW.out]
  clear HW
  refine (HKF.out w1 (Below.refl _ _)).mono ?_
  rintro e w2 ⟨rfl, hb⟩
  have HC2 := Aside0.mk hb
  clear hb
  obtain ⟨p0, p1, p2, q0, q1, q2⟩ := six HC2.out D0.out D1.out
  by_cases hc : ef = 0
  · subst hc
    have hlf : lf ≤ 65536 := HOk0.out rfl
    --@B
    go_wp2_with fail
    refine (HKG.out w2 HC2.out).mono ?_
    rintro e w3 ⟨rfl, hb⟩
    have HC3 := Aside0.mk (below_step HC2.out hb)
    clear hb p0 p1 p2 q0 q1 q2
    by_cases hc : eg = 0
    · subst hc
      have hlg : lg ≤ 65536 := HOk1.out rfl
      go_wp2_with fail
      --@C
      have hbD := below_step HC3.out (below_drew1 (Below.refl w3.heap.size w3))
      refine start_ (n := 6) (S := fun w' => w'.cell? ⟨w.heap.size, 0, none⟩ = some (.slice A0 m0 a0) ∧ w'.cell? ⟨w.heap.size, 1, none⟩ = some (.slice A1 m1 a1) ∧ w'.cell? ⟨w.heap.size, 2, none⟩ = some (.slice A2 m2 a2) ∧ w'.cell? ⟨w.heap.size + 1, 0, none⟩ = some (.slice B0 n0 b0) ∧ w'.cell? ⟨w.heap.size + 1, 1, none⟩ = some (.slice B1 n1 b1) ∧ w'.cell? ⟨w.heap.size + 1, 2, none⟩ = some (.slice B2 n2 b2)) (ds := []) #[false, false, false, false, false, false] (by kernel_rfl) rfl rfl (six hbD D0.out D1.out) (fun hHeld => ?_); refine with_tab tab15_7 (fun HT_ => ?_)
      generalize w3.drew = w7 at hbD hHeld ⊢
      have HC7 := Aside0.mk hbD
      clear hbD
      refine take_ (i := 0) (N := some 20) (v := ?_) (a' := ?_) #[true, false, false, false, false, false] rfl rfl (take_of HT_.out (by kernel_rfl)) (fun _ _ _ h => h) (Or.inl ⟨by rfl, ?_⟩) hHeld ?_ ?_
      rotate_left
      · rintro w' ⟨s0, s1, s2, s3, s4, s5⟩
        go_simp
        with_reducible rfl
      rotate_left
      · simp only [Act.put, List.setIfInBounds_toArray, List.set_cons_zero, List.set_cons_succ, i64_w, i32_w]
        rfl
      refine take_ (i := 2) (N := some 22) (v := ?_) (a' := ?_) #[true, false, true, false, false, false] rfl rfl (take_of HT_.out (by kernel_rfl)) (fun _ _ _ h => h) (Or.inl ⟨by rfl, ?_⟩) hHeld ?_ ?_
      rotate_left
      · rintro w' ⟨s0, s1, s2, s3, s4, s5⟩
        go_simp
        with_reducible rfl
      rotate_left
      · simp only [Act.put, List.setIfInBounds_toArray, List.set_cons_zero, List.set_cons_succ, i64_w, i32_w]
        rfl
      refine one_ (i := 1) (N := some 21) #[true, true, true, false, false, false] rfl rfl (one_of HT_.out (by kernel_rfl)) (by decide) (fun K hK => ?_)
      refine goes_ Tryz.func29 (by kernel_rfl) rfl #[.agg #[.slice A0 m0 a0, .slice A1 m1 a1, .slice A2 m2 a2]] (by rfl) rfl rfl (by (try simp only [List.map_toArray, List.map_cons, List.map_nil]); first | done | rfl) ?_
      refine (HSF.out w7 HC7.out).mono ?_
      rintro e w8 ⟨rfl, hb⟩
      refine ⟨_, rfl, ?_⟩
      have HC8 := Aside0.mk (below_step HC7.out hb)
      clear hb hHeld
      refine hK.out _ _ (six HC8.out D0.out D1.out) (fun hHeld => ?_)
      clear hK K
      refine norm_ (a' := ?_) ?_ ?_
      rotate_left
      · show Act.put _ (some 21) _ = _
        simp only [Act.put, List.setIfInBounds_toArray, List.set_cons_zero, List.set_cons_succ, i64_w, i32_w]
        rfl
      refine one_ (i := 3) (N := some 23) #[true, true, true, true, false, false] rfl rfl (one_of HT_.out (by kernel_rfl)) (by decide) (fun K hK => ?_)
      refine goes_ Tryz.func29 (by kernel_rfl) rfl #[.agg #[.slice B0 n0 b0, .slice B1 n1 b1, .slice B2 n2 b2]] (by rfl) rfl rfl (by (try simp only [List.map_toArray, List.map_cons, List.map_nil]); first | done | rfl) ?_
      refine (HSG.out w8 HC8.out).mono ?_
      rintro e w9 ⟨rfl, hb⟩
      refine ⟨_, rfl, ?_⟩
      have HC9 := Aside0.mk (below_step HC8.out hb)
      clear hb hHeld
      refine hK.out _ _ (six HC9.out D0.out D1.out) (fun hHeld => ?_)
      clear hK K
      refine norm_ (a' := ?_) ?_ ?_
      rotate_left
      · show Act.put _ (some 23) _ = _
        simp only [Act.put, List.setIfInBounds_toArray, List.set_cons_zero, List.set_cons_succ, i64_w, i32_w]
        rfl
      refine pure_ (i := 4) (N := some 24) (v := ?_) (a' := ?_) #[true, true, true, true, true, false] rfl rfl (any_of HT_.out (by kernel_rfl)) (fun _ _ _ h => h) (Or.inl ⟨by rfl, ?_⟩) ?_ ?_
      rotate_left
      · intro w'
        go_simp
        with_reducible rfl
      rotate_left
      · simp only [Act.put, List.setIfInBounds_toArray, List.set_cons_zero, List.set_cons_succ, i64_w, i32_w]
        rfl
      refine pure_ (i := 5) (N := some 25) (v := ?_) (a' := ?_) #[true, true, true, true, true, true] rfl rfl (any_of HT_.out (by kernel_rfl)) (fun _ _ _ h => h) (Or.inl ⟨by rfl, ?_⟩) ?_ ?_
      rotate_left
      · intro w'
        go_simp
        with_reducible rfl
      rotate_left
      · simp only [Act.put, List.setIfInBounds_toArray, List.set_cons_zero, List.set_cons_succ, i64_w, i32_w]
        rfl
      refine done_ (done_of HT_.out (by kernel_rfl)) ?_
      clear hHeld HT_ HSF HSG
      rw [wrap64_id (n := (lf : Int) + (lg : Int)) (by omega) (by omega)]
      --@D
      have hcode : mergeC f g = (if lf + lg > 65536 then 2 else 0) := by simpa using HCode.out
      clear HCode
      by_cases hc : lf + lg > 65536
      · have hcz : (65536 : Int) < (lf : Int) + (lg : Int) := by omega
        rw [if_pos hc] at hcode
        have HCo := Aside0.mk hcode
        clear hcode
        have HX9 := Aside0.mk ((HC9.out.block _ (lt_of D2.out)).trans D2.out)
        have j0 : w9.cell? ⟨w.heap.size + 1 + 1, 0, none⟩ = some (.slice none 0 0) := cell_of HX9.out 0
        have j1 : w9.cell? ⟨w.heap.size + 1 + 1, 1, none⟩ = some (.slice none 0 0) := cell_of HX9.out 1
        have j2 : w9.cell? ⟨w.heap.size + 1 + 1, 2, none⟩ = some (.slice none 0 0) := cell_of HX9.out 2
        have k0 : w9.frozen? ⟨w.heap.size + 1 + 1, 0, none⟩ = false := frozen_of HX9.out 0
        have k1 : w9.frozen? ⟨w.heap.size + 1 + 1, 1, none⟩ = false := frozen_of HX9.out 1
        have k2 : w9.frozen? ⟨w.heap.size + 1 + 1, 2, none⟩ = false := frozen_of HX9.out 2
        have HB9 := Aside0.mk (below_step HB1.out HC9.out)
        go_wp2
        refine bodyPost_ret (results_ct rfl _ _ (w.heap.size + 1 + 1) 25 #[.slice none 0 0, .slice none 0 0, .slice none 0 0] (0, 0) _ rfl (setCell_heap (setCell_heap (setCell_heap HX9.out _) _) _) Tryz.underlying25 rfl (by kernel_rfl)) rfl ?_
        have hb : Below w.heap.size w (((w9.setCell ⟨w.heap.size + 1 + 1, 0, none⟩ (.slice none 0 0)).setCell ⟨w.heap.size + 1 + 1, 1, none⟩ (.slice none 0 0)).setCell ⟨w.heap.size + 1 + 1, 2, none⟩ (.slice none 0 0)) := ((HB9.out.setCell (p := ⟨w.heap.size + 1 + 1, 0, none⟩) (by show w.heap.size ≤ w.heap.size + 1 + 1; omega) _).setCell (p := ⟨w.heap.size + 1 + 1, 1, none⟩) (by show w.heap.size ≤ w.heap.size + 1 + 1; omega) _).setCell (p := ⟨w.heap.size + 1 + 1, 2, none⟩) (by show w.heap.size ≤ w.heap.size + 1 + 1; omega) _
        exact ⟨Ft.nil, _, (by rw [HCo.out]; rfl), .inr ⟨by rw [HCo.out]; decide, rfl⟩, (FtO.nil _ 0).V, hb⟩
      · have hcz : ¬ (65536 : Int) < (lf : Int) + (lg : Int) := by omega
        rw [if_neg hc] at hcode
        have HCo := Aside0.mk hcode
        have HCl := Aside0.mk (Nat.le_of_not_lt hc)
        clear hcode hc
        obtain ⟨p0, p1, p2, q0, q1, q2⟩ := six HC9.out D0.out D1.out
        --@E
        go_wp2_with fail
        refine (HBo.out w9 HC9.out HCl.out).mono ?_
        rintro e w10 ⟨C0, C1, C2, c0, c1, c2, rfl, hr, hb⟩
        have HC10 := Aside0.mk (below_step HC9.out hb)
        have HR := Aside0.mk hr
        clear hr hb p0 p1 p2 q0 q1 q2
        --@F
        go_wp2_with fail
        refine (HNO.out w10 C0 C1 C2 c0 c1 c2 HCl.out HR.out).mono ?_
        rintro e w11 ⟨h, pl, v, rfl, hno, hv, hb⟩
        have HC11 := Aside0.mk (below_step HC10.out hb)
        rw [HFg.out] at hno
        have HNo := Aside0.mk hno
        have HV := Aside0.mk hv
        obtain ⟨E0, E1, E2, e0, e1, e2, heq, -⟩ := hv
        unfold fv at heq
        subst heq
        clear hno hb
        generalize h.ps.length = z0 at *
        generalize h.ss.length = z1 at *
        generalize h.ws.length = z2 at *
        have HX11 := Aside0.mk ((HC11.out.block _ (lt_of D2.out)).trans D2.out)
        have j0 : w11.cell? ⟨w.heap.size + 1 + 1, 0, none⟩ = some (.slice none 0 0) := cell_of HX11.out 0
        have j1 : w11.cell? ⟨w.heap.size + 1 + 1, 1, none⟩ = some (.slice none 0 0) := cell_of HX11.out 1
        have j2 : w11.cell? ⟨w.heap.size + 1 + 1, 2, none⟩ = some (.slice none 0 0) := cell_of HX11.out 2
        have k0 : w11.frozen? ⟨w.heap.size + 1 + 1, 0, none⟩ = false := frozen_of HX11.out 0
        have k1 : w11.frozen? ⟨w.heap.size + 1 + 1, 1, none⟩ = false := frozen_of HX11.out 1
        have k2 : w11.frozen? ⟨w.heap.size + 1 + 1, 2, none⟩ = false := frozen_of HX11.out 2
        --@G
        go_wp2
        have hFr : Fr w11 (w.heap.size + 1 + 1) (((w11.setCell ⟨w.heap.size + 1 + 1, 0, none⟩ (.slice E0 z0 e0)).setCell ⟨w.heap.size + 1 + 1, 1, none⟩ (.slice E1 z1 e1)).setCell ⟨w.heap.size + 1 + 1, 2, none⟩ (.slice E2 z2 e2)) := (((Fr.refl (lt_of HX11.out)).set 0 _).set 1 _).set 2 _
        refine bodyPost_ret (results_ct rfl _ _ (w.heap.size + 1 + 1) 25 #[.slice E0 z0 e0, .slice E1 z1 e1, .slice E2 z2 e2] (0, 0) _ rfl (setCell_heap (setCell_heap (setCell_heap HX11.out _) _) _) Tryz.underlying25 rfl (by kernel_rfl)) rfl ?_
        exact ⟨h, _, (by rw [HCo.out]; rfl), .inl ⟨HCo.out, pl, HNo.out⟩, HV.out.keep hFr HX11.out HSl.out, Below.trans (below_step HB1.out HC11.out) (hFr.low.mono (by omega))⟩
    · have hcode : mergeC f g = eg := by simpa [hc] using HCode.out
      have HCo := Aside0.mk hcode
      have hcb : (eg == 0) = false := by simpa using hc
      clear hcode HCode
      have HX3 := Aside0.mk ((HC3.out.block _ (lt_of D2.out)).trans D2.out)
      have j0 : w3.cell? ⟨w.heap.size + 1 + 1, 0, none⟩ = some (.slice none 0 0) := cell_of HX3.out 0
      have j1 : w3.cell? ⟨w.heap.size + 1 + 1, 1, none⟩ = some (.slice none 0 0) := cell_of HX3.out 1
      have j2 : w3.cell? ⟨w.heap.size + 1 + 1, 2, none⟩ = some (.slice none 0 0) := cell_of HX3.out 2
      have k0 : w3.frozen? ⟨w.heap.size + 1 + 1, 0, none⟩ = false := frozen_of HX3.out 0
      have k1 : w3.frozen? ⟨w.heap.size + 1 + 1, 1, none⟩ = false := frozen_of HX3.out 1
      have k2 : w3.frozen? ⟨w.heap.size + 1 + 1, 2, none⟩ = false := frozen_of HX3.out 2
      have HB3 := Aside0.mk (below_step HB1.out HC3.out)
      go_wp2
      refine bodyPost_ret (results_ct rfl _ _ (w.heap.size + 1 + 1) 25 #[.slice none 0 0, .slice none 0 0, .slice none 0 0] (0, 0) _ rfl (setCell_heap (setCell_heap (setCell_heap HX3.out _) _) _) Tryz.underlying25 rfl (by kernel_rfl)) rfl ?_
      have hb : Below w.heap.size w (((w3.setCell ⟨w.heap.size + 1 + 1, 0, none⟩ (.slice none 0 0)).setCell ⟨w.heap.size + 1 + 1, 1, none⟩ (.slice none 0 0)).setCell ⟨w.heap.size + 1 + 1, 2, none⟩ (.slice none 0 0)) := ((HB3.out.setCell (p := ⟨w.heap.size + 1 + 1, 0, none⟩) (by show w.heap.size ≤ w.heap.size + 1 + 1; omega) _).setCell (p := ⟨w.heap.size + 1 + 1, 1, none⟩) (by show w.heap.size ≤ w.heap.size + 1 + 1; omega) _).setCell (p := ⟨w.heap.size + 1 + 1, 2, none⟩) (by show w.heap.size ≤ w.heap.size + 1 + 1; omega) _
      exact ⟨Ft.nil, _, (by rw [HCo.out]; rfl), .inr ⟨by rw [HCo.out]; exact hc, rfl⟩, (FtO.nil _ 0).V, hb⟩
  · have hcode : mergeC f g = ef := by simpa [hc] using HCode.out
    have HCo := Aside0.mk hcode
    have hcb : (ef == 0) = false := by simpa using hc
    clear hcode HCode
    have HX2 := Aside0.mk ((HC2.out.block _ (lt_of D2.out)).trans D2.out)
    have j0 : w2.cell? ⟨w.heap.size + 1 + 1, 0, none⟩ = some (.slice none 0 0) := cell_of HX2.out 0
    have j1 : w2.cell? ⟨w.heap.size + 1 + 1, 1, none⟩ = some (.slice none 0 0) := cell_of HX2.out 1
    have j2 : w2.cell? ⟨w.heap.size + 1 + 1, 2, none⟩ = some (.slice none 0 0) := cell_of HX2.out 2
    have k0 : w2.frozen? ⟨w.heap.size + 1 + 1, 0, none⟩ = false := frozen_of HX2.out 0
    have k1 : w2.frozen? ⟨w.heap.size + 1 + 1, 1, none⟩ = false := frozen_of HX2.out 1
    have k2 : w2.frozen? ⟨w.heap.size + 1 + 1, 2, none⟩ = false := frozen_of HX2.out 2
    have HB2 := Aside0.mk (below_step HB1.out HC2.out)
    go_wp2
    refine bodyPost_ret (results_ct rfl _ _ (w.heap.size + 1 + 1) 25 #[.slice none 0 0, .slice none 0 0, .slice none 0 0] (0, 0) _ rfl (setCell_heap (setCell_heap (setCell_heap HX2.out _) _) _) Tryz.underlying25 rfl (by kernel_rfl)) rfl ?_
    have hb : Below w.heap.size w (((w2.setCell ⟨w.heap.size + 1 + 1, 0, none⟩ (.slice none 0 0)).setCell ⟨w.heap.size + 1 + 1, 1, none⟩ (.slice none 0 0)).setCell ⟨w.heap.size + 1 + 1, 2, none⟩ (.slice none 0 0)) := ((HB2.out.setCell (p := ⟨w.heap.size + 1 + 1, 0, none⟩) (by show w.heap.size ≤ w.heap.size + 1 + 1; omega) _).setCell (p := ⟨w.heap.size + 1 + 1, 1, none⟩) (by show w.heap.size ≤ w.heap.size + 1 + 1; omega) _).setCell (p := ⟨w.heap.size + 1 + 1, 2, none⟩) (by show w.heap.size ≤ w.heap.size + 1 + 1; omega) _
    exact ⟨Ft.nil, _, (by rw [HCo.out]; rfl), .inr ⟨by rw [HCo.out]; exact hc, rfl⟩, (FtO.nil _ 0).V, hb⟩
theorem mergeV {w : World} {v u : Value} {f g : Ft} (hf : FtV w v f) (hg : FtV w u g) (hfs : f.small) (hgs : g.small) (hfw : f.wfs) (hgw : g.wfs) : Calls Tryz.prog 14 #[v, u] w fun e w' => ∃ (h : Ft) (v' v0 v1 v2 : Value), e = .returned (.tuple #[v', .int .i64 (mergeC f g)]) ∧ MergeR f g h ∧ FtO w' w.heap.size v' h v0 v1 v2 ∧ Below w.heap.size w w' := by
  obtain ⟨A0, A1, A2, a0, a1, a2, rfl, hf⟩ := hf
  obtain ⟨B0, B1, B2, b0, b1, b2, rfl, hg⟩ := hg
  exact merge_any f g A0 A1 A2 B0 B1 B2 a0 a1 a2 b0 b1 b2 w hf hg hfs hgs hfw hgw
theorem rmergeV {w : World} {v u : Value} {f g : Ft} (hf : FtV w v f) (hg : FtV w u g) (hfs : f.small) (hgs : g.small) : Calls Tryz.prog 15 #[v, u] w fun e w' => ∃ (h : Ft) (v' : Value), e = .returned (.tuple #[v', .int .i64 (mergeC f g)]) ∧ MergeR f g h ∧ FtV w' v' h ∧ Below w.heap.size w w' := by
  obtain ⟨A0, A1, A2, a0, a1, a2, rfl, hf⟩ := hf
  obtain ⟨B0, B1, B2, b0, b1, b2, rfl, hg⟩ := hg
  exact rmerge_any f g A0 A1 A2 B0 B1 B2 a0 a1 a2 b0 b1 b2 w hf hg hfs hgs
def T4_1 : Bool × List (List Nat × List Nat) := (true, [([], []), ([0], [0]), ([], []), ([2, 1], [2]), ([1, 3, 3], [1, 3]), ([4], [4]), ([5], [5]), ([5], [5]), ([], []), ([8, 6, 4, 0, 1, 2, 3, 4, 5, 6, 8], [6, 8]), ([7, 9, 0, 1, 2, 3, 4, 5, 6, 7, 8, 9], [7])])
theorem tab4_1 : rtab .any (opsOf Tryz.f4 1) = T4_1 := by kernel_rfl
def T4_5 : Bool × List (List Nat × List Nat) := (true, [([], []), ([0], [0]), ([], []), ([2, 1], [2]), ([1, 3, 3], [1, 3]), ([4], [4]), ([5], [5]), ([5], [5]), ([], []), ([8, 6, 4, 0, 1, 2, 3, 4, 5, 6, 8], [6, 8]), ([7, 9, 0, 1, 2, 3, 4, 5, 6, 7, 8, 9], [7])])
theorem tab4_5 : rtab .any (opsOf Tryz.f4 5) = T4_5 := by kernel_rfl
def BoxF (w : World) (b : Nat) (v : Value) (h : Ft) : Prop := ∃ C0 C1 C2 n0 n1 n2 c0 c1 c2, v = .agg #[.slice C0 n0 c0, .slice C1 n1 c1, .slice C2 n2 c2] ∧ w.heap[b]? = some (.cells #[.slice C0 n0 c0, .slice C1 n1 c1, .slice C2 n2 c2] 25 (0, 0)) ∧ FtV w v h
theorem BoxF.keep {w w' : World} {b : Nat} {v : Value} {h : Ft} (hx : BoxF w b v h) (hb : Below w.heap.size w w') : BoxF w' b v h := by
  obtain ⟨C0, C1, C2, n0, n1, n2, c0, c1, c2, rfl, e, hv⟩ := hx
  exact ⟨C0, C1, C2, n0, n1, n2, c0, c1, c2, rfl, (hb.block _ (lt_of e)).trans e, hv.below hb⟩
def MergedV (w : World) (x : Value) (f g h : Ft) : Prop := ∃ C0 C1 C2 n0 n1 n2 c0 c1 c2, x = .tuple #[.agg #[.slice C0 n0 c0, .slice C1 n1 c1, .slice C2 n2 c2], .int .i64 (mergeC f g)] ∧ MergeR f g h ∧ FtV w (.agg #[.slice C0 n0 c0, .slice C1 n1 c1, .slice C2 n2 c2]) h
theorem MergedV.keep {w w' : World} {x : Value} {f g h : Ft} (hx : MergedV w x f g h) (hb : Below w.heap.size w w') : MergedV w' x f g h := by
  obtain ⟨C0, C1, C2, n0, n1, n2, c0, c1, c2, rfl, hr, hv⟩ := hx
  exact ⟨C0, C1, C2, n0, n1, n2, c0, c1, c2, rfl, hr, hv.below hb⟩
theorem mergedV {w : World} {v u : Value} {f g : Ft} (hf : FtV w v f) (hg : FtV w u g) (hfs : f.small) (hgs : g.small) (hfw : f.wfs) (hgw : g.wfs) : Calls Tryz.prog 14 #[v, u] w fun e w' => ∃ x h, e = .returned x ∧ MergedV w' x f g h ∧ Below w.heap.size w w' := by
  refine (mergeV hf hg hfs hgs hfw hgw).mono ?_
  rintro e w' ⟨h, v', v0, v1, v2, rfl, hr, ho, hb⟩
  obtain ⟨C0, c0, e0, -, -⟩ := ho.h0.C37
  obtain ⟨C1, c1, e1, -, -⟩ := ho.h1.C46
  obtain ⟨C2, c2, e2, -, -⟩ := ho.h2.C37
  subst e0 e1 e2
  have hv := ho.V
  have heq := ho.eq
  subst heq
  exact ⟨_, h, rfl, ⟨C0, C1, C2, _, _, _, c0, c1, c2, rfl, hr, hv⟩, hb⟩
def MergedE (w : World) (x y : Value) (f g : Ft) : Prop := ∃ h C0 C1 C2 n0 n1 n2 c0 c1 c2, x = .agg #[.slice C0 n0 c0, .slice C1 n1 c1, .slice C2 n2 c2] ∧ y = .int .i64 (mergeC f g) ∧ MergeR f g h ∧ FtV w (.agg #[.slice C0 n0 c0, .slice C1 n1 c1, .slice C2 n2 c2]) h
def Zb (w : World) (b : Nat) (x : Value) : Prop := ∃ bo, x = .pointer (some ⟨bo, 0, none⟩) ∧ b ≤ bo ∧ w.heap[bo]? = some (.cells #[.slice none 0 0, .slice none 0 0, .slice none 0 0] 25 (0, 0))
theorem Zb.keep {w w' : World} {b : Nat} {x : Value} (hx : Zb w b x) (hb : Below w.heap.size w w') : Zb w' b x := by
  obtain ⟨bo, rfl, hl, e⟩ := hx
  exact ⟨bo, rfl, hl, (hb.block _ (lt_of e)).trans e⟩
set_option maxHeartbeats 16000000 in
set_option maxRecDepth 100000 in
theorem merges_reg1 {f g : Ft} {m0 m1 m2 n0 n1 n2 a0 a1 a2 b0 b1 b2 bf bg : Nat} {A0 A1 A2 B0 B1 B2 : Option Addr} {w1 : World} {Q : Exit → Act → World → Prop} {t0 t1 t2 t3 t4 t5 t6 t7 t8 t9 t10 t11 t12 t13 t14 t15 t16 t17 t18 t19 t20 t21 t22 t23 t24 t25 t26 t27 t28 t29 t30 t31 t32 t33 t34 t35 t36 t37 t38 t39 t40 t41 t42 t43 t44 t45 t46 t47 t48 t49 t50 t51 t52 t53 t54 t55 : Value} {ds : List Deferred}
    (HCf : ∀ W, Below w1.heap.size w1 W → Calls Tryz.prog 8 #[.agg #[.slice A0 m0 a0, .slice A1 m1 a1, .slice A2 m2 a2]] W fun e w' => ∃ v', e = .returned v' ∧ FtV w' v' f ∧ Below W.heap.size W w') (HCg : ∀ W, Below w1.heap.size w1 W → Calls Tryz.prog 8 #[.agg #[.slice B0 n0 b0, .slice B1 n1 b1, .slice B2 n2 b2]] W fun e w' => ∃ v', e = .returned v' ∧ FtV w' v' g ∧ Below W.heap.size W w')
    (HMg : ∀ (W : World) (v u : Value), FtV W v f → FtV W u g → Calls Tryz.prog 14 #[v, u] W fun e w' => ∃ x h, e = .returned x ∧ MergedV w' x f g h ∧ Below W.heap.size W w')
    (D0 : w1.heap[bf]? = some (.cells #[.slice A0 m0 a0, .slice A1 m1 a1, .slice A2 m2 a2] 25 (0, 0))) (D1 : w1.heap[bg]? = some (.cells #[.slice B0 n0 b0, .slice B1 n1 b1, .slice B2 n2 b2] 25 (0, 0)))
    (hQp : ∀ c a d v w, Q (.panic c) (Act.put a d v) w → Q (.panic c) a w)
    (hEnd : ∀ (w10 : World) (h : Ft) (bo : Nat) (vo x12 x13 x14 x15 x16 x11 x17 x18 : Value), MergeR f g h → w1.heap.size ≤ bo → Below w1.heap.size w1 w10 → BoxF w10 bo vo h → Q .normal ⟨#[t0, t1, .pointer (some ⟨bf, 0, none⟩), .pointer (some ⟨bg, 0, none⟩), t4, .pointer (some ⟨bo, 0, none⟩), .int .i64 (mergeC f g), t7, t8, t9, t10, x11, x12, x13, x14, x15, x16, x17, x18, t19, t20, t21, t22, t23, t24, t25, t26, t27, t28, t29, t30, t31, t32, t33, t34, t35, t36, t37, t38, t39, t40, t41, t42, t43, t44, t45, t46, t47, t48, t49, t50, t51, t52, t53, t54, t55], ds⟩ w10) :
    (Code.region 1 (opsOf Tryz.f4 1) true).wp Tryz.prog Q ⟨#[t0, t1, .pointer (some ⟨bf, 0, none⟩), .pointer (some ⟨bg, 0, none⟩), t4, t5, t6, t7, t8, t9, t10, t11, t12, t13, t14, t15, t16, t17, t18, t19, t20, t21, t22, t23, t24, t25, t26, t27, t28, t29, t30, t31, t32, t33, t34, t35, t36, t37, t38, t39, t40, t41, t42, t43, t44, t45, t46, t47, t48, t49, t50, t51, t52, t53, t54, t55], ds⟩ w1 := by
  obtain ⟨M, hM⟩ : ∃ M : Value → Value → Value → Value → Value → Value → Value → Act, M = fun x13 x15 x16 x5 x11 x17 x18 => ⟨#[t0, t1, .pointer (some ⟨bf, 0, none⟩), .pointer (some ⟨bg, 0, none⟩), t4, x5, t6, t7, t8, t9, t10, x11, .agg #[.slice A0 m0 a0, .slice A1 m1 a1, .slice A2 m2 a2], x13, .agg #[.slice B0 n0 b0, .slice B1 n1 b1, .slice B2 n2 b2], x15, x16, x17, x18, t19, t20, t21, t22, t23, t24, t25, t26, t27, t28, t29, t30, t31, t32, t33, t34, t35, t36, t37, t38, t39, t40, t41, t42, t43, t44, t45, t46, t47, t48, t49, t50, t51, t52, t53, t54, t55], ds⟩ := ⟨_, rfl⟩
  obtain ⟨ops, hops⟩ : ∃ ops, opsOf Tryz.f4 1 = ops := ⟨_, rfl⟩
  rw [hops]
  simp [opsOf, opsIn, Tryz.f4] at hops
  have s1_3_4_8 : ∀ (w2 : World) (x13 x15 x16 x5 x11 x17 x18 : Value), Below w1.heap.size w1 w2 → MergedE w2 x17 x18 f g → Zb w2 w1.heap.size x5 → wpAnyLast Tryz.prog .any ops Q (fun w' => Below w1.heap.size w1 w') [] 2 #[true, true, true, true, true, true, true, true, true, false, false] (M x13 x15 x16 x5 x11 x17 x18) w2 := by
    intro w2 x13 x15 x16 x5 x11 x17 x18 hc fE f8
    simp only [hM]
    subst hops
    refine with_tab tab4_1 (fun HT_ => ?_)
    obtain ⟨h, C0, C1, C2, n0, n1, n2, c0, c1, c2, rfl, rfl, hr, hv⟩ := fE
    obtain ⟨bo, rfl, hlo, hz⟩ := f8
    have hS := allSl (a := .slice none 0 0) (b := .slice none 0 0) (c := .slice none 0 0) rfl rfl rfl
    have HV := Aside0.mk hv
    have HR := Aside0.mk hr
    have HZ := Aside0.mk hz
    have HS := Aside0.mk hS
    have j0 : w2.cell? ⟨bo, 0, none⟩ = some (.slice none 0 0) := cell_of hz 0
    have j1 : w2.cell? ⟨bo, 1, none⟩ = some (.slice none 0 0) := cell_of hz 1
    have j2 : w2.cell? ⟨bo, 2, none⟩ = some (.slice none 0 0) := cell_of hz 2
    have k0 : w2.frozen? ⟨bo, 0, none⟩ = false := frozen_of hz 0
    have k1 : w2.frozen? ⟨bo, 1, none⟩ = false := frozen_of hz 1
    have k2 : w2.frozen? ⟨bo, 2, none⟩ = false := frozen_of hz 2
    clear hv hr hz hS
    refine one_ (i := 9) (N := none) #[true, true, true, true, true, true, true, true, true, true, false] rfl rfl (one_of HT_.out (by kernel_rfl)) (by decide) (fun K hK => ?_)
    refine skip_ (w1 := ?_) (by rfl) rfl ?_ ?_
    rotate_left
    · go_simp
      rfl
    have hFr : Fr w2 bo (((w2.setCell ⟨bo, 0, none⟩ (.slice C0 n0 c0)).setCell ⟨bo, 1, none⟩ (.slice C1 n1 c1)).setCell ⟨bo, 2, none⟩ (.slice C2 n2 c2)) := (((Fr.refl (lt_of HZ.out)).set 0 _).set 1 _).set 2 _
    have HV4 := Aside0.mk (HV.out.keep hFr HZ.out HS.out)
    have HX4 := Aside0.mk (show (((w2.setCell ⟨bo, 0, none⟩ (.slice C0 n0 c0)).setCell ⟨bo, 1, none⟩ (.slice C1 n1 c1)).setCell ⟨bo, 2, none⟩ (.slice C2 n2 c2)).heap[bo]? = some (.cells #[.slice C0 n0 c0, .slice C1 n1 c1, .slice C2 n2 c2] 25 (0, 0)) from setCell_heap (setCell_heap (setCell_heap HZ.out _) _) _)
    have hl : Below w1.heap.size w1 (((w2.setCell ⟨bo, 0, none⟩ (.slice C0 n0 c0)).setCell ⟨bo, 1, none⟩ (.slice C1 n1 c1)).setCell ⟨bo, 2, none⟩ (.slice C2 n2 c2)) := Below.trans hc (hFr.low.mono hlo)
    clear hFr
    generalize (((w2.setCell ⟨bo, 0, none⟩ (.slice C0 n0 c0)).setCell ⟨bo, 1, none⟩ (.slice C1 n1 c1)).setCell ⟨bo, 2, none⟩ (.slice C2 n2 c2)) = w4 at HV4 HX4 hl ⊢
    refine hK.out _ _ hl (fun hHeld => ?_)
    clear hK K
    refine pure_ (i := 10) (N := some 6) (v := ?_) (a' := ?_) #[true, true, true, true, true, true, true, true, true, true, true] rfl rfl (any_of HT_.out (by kernel_rfl)) (fun _ _ _ h => hQp _ _ _ _ _ h) (Or.inl ⟨by rfl, ?_⟩) ?_ ?_
    rotate_left
    · intro w'
      go_simp
      with_reducible rfl
    rotate_left
    · simp only [Act.put, List.setIfInBounds_toArray, List.set_cons_zero, List.set_cons_succ, i64_w, i32_w]
      rfl
    refine done_ (done_of HT_.out (by kernel_rfl)) ?_
    exact hEnd w4 h bo _ _ _ _ _ _ _ _ _ HR.out hlo hl ⟨C0, C1, C2, n0, n1, n2, c0, c1, c2, rfl, HX4.out, HV4.out⟩
  have s1_3_4 : ∀ (w2 : World) (x13 x15 x16 x5 x11 x17 x18 : Value), Below w1.heap.size w1 w2 → (∃ h, MergedV w2 x16 f g h) → wpAnyLast Tryz.prog .any ops Q (fun w' => Below w1.heap.size w1 w') [] 6 #[true, true, true, true, true, false, false, false, false, false, false] (M x13 x15 x16 x5 x11 x17 x18) w2 := by
    intro w2 x13 x15 x16 x5 x11 x17 x18 hc f4
    simp only [hM]
    subst hops
    refine with_tab tab4_1 (fun HT_ => ?_)
    obtain ⟨h, C0, C1, C2, n0, n1, n2, c0, c1, c2, rfl, hr, hv⟩ := f4
    refine pure_ (i := 5) (N := some 11) (v := ?_) (a' := ?_) #[true, true, true, true, true, true, false, false, false, false, false] rfl rfl (any_of HT_.out (by kernel_rfl)) (fun _ _ _ h => hQp _ _ _ _ _ h) (Or.inl ⟨by rfl, ?_⟩) ?_ ?_
    rotate_left
    · intro w'
      go_simp
      with_reducible rfl
    rotate_left
    · simp only [Act.put, List.setIfInBounds_toArray, List.set_cons_zero, List.set_cons_succ, i64_w, i32_w]
      rfl
    refine pure_ (i := 6) (N := some 17) (v := ?_) (a' := ?_) #[true, true, true, true, true, true, true, false, false, false, false] rfl rfl (any_of HT_.out (by kernel_rfl)) (fun _ _ _ h => hQp _ _ _ _ _ h) (Or.inl ⟨by rfl, ?_⟩) ?_ ?_
    rotate_left
    · intro w'
      go_simp
      with_reducible rfl
    rotate_left
    · simp only [Act.put, List.setIfInBounds_toArray, List.set_cons_zero, List.set_cons_succ, i64_w, i32_w]
      rfl
    refine pure_ (i := 7) (N := some 18) (v := ?_) (a' := ?_) #[true, true, true, true, true, true, true, true, false, false, false] rfl rfl (any_of HT_.out (by kernel_rfl)) (fun _ _ _ h => hQp _ _ _ _ _ h) (Or.inl ⟨by rfl, ?_⟩) ?_ ?_
    rotate_left
    · intro w'
      go_simp
      with_reducible rfl
    rotate_left
    · simp only [Act.put, List.setIfInBounds_toArray, List.set_cons_zero, List.set_cons_succ, i64_w, i32_w]
      rfl
    refine one_ (i := 8) (N := some 5) #[true, true, true, true, true, true, true, true, true, false, false] rfl rfl (one_of HT_.out (by kernel_rfl)) (by decide) (fun K hK => ?_)
    have hb := below_alloc (Below.refl w2.heap.size w2) (.cells #[.slice none 0 0, .slice none 0 0, .slice none 0 0] 25)
    have hx : Zb (w2.alloc (.cells #[.slice none 0 0, .slice none 0 0, .slice none 0 0] 25)) w1.heap.size (.pointer (some ⟨w2.heap.size, 0, none⟩)) := ⟨_, rfl, hc.size, heap_new w2 _⟩
    refine value_ (w1 := ?_) (v := ?_) (by rfl) rfl ?_ ?_
    rotate_left
    rotate_left
    · go_simp
      constructor
      · rfl
      · rfl
    refine hK.out _ _ (below_step hc hb) (fun hHeld => ?_)
    clear hK K
    refine norm_ (a' := ?_) ?_ ?_
    rotate_left
    · show Act.put _ (some 5) _ = _
      simp only [Act.put, List.setIfInBounds_toArray, List.set_cons_zero, List.set_cons_succ, i64_w, i32_w]
      rfl
    simpa only [hM] using s1_3_4_8 _ x13 x15 _ _ _ _ _ (below_step hc hb) ⟨h, C0, C1, C2, n0, n1, n2, c0, c1, c2, rfl, rfl, hr, hv.below hb⟩ hx
  have s1_3_8 : ∀ (w2 : World) (x13 x15 x16 x5 x11 x17 x18 : Value), Below w1.heap.size w1 w2 → FtV w2 x13 f → FtV w2 x15 g → Zb w2 w1.heap.size x5 → wpAnyLast Tryz.prog .any ops Q (fun w' => Below w1.heap.size w1 w') [] 6 #[true, true, true, true, false, false, false, false, true, false, false] (M x13 x15 x16 x5 x11 x17 x18) w2 := by
    intro w2 x13 x15 x16 x5 x11 x17 x18 hc f1 f3 f8
    simp only [hM]
    subst hops
    refine with_tab tab4_1 (fun HT_ => ?_)
    refine one_ (i := 4) (N := some 16) #[true, true, true, true, true, false, false, false, true, false, false] rfl rfl (one_of HT_.out (by kernel_rfl)) (by decide) (fun K hK => ?_)
    refine goes_ Tryz.func14 (by kernel_rfl) rfl #[x13, x15] (by rfl) rfl rfl (by (try simp only [List.map_toArray, List.map_cons, List.map_nil]); first | done | rfl) ?_
    refine (HMg w2 _ _ f1 f3).mono ?_
    rintro e w3 ⟨v, h, rfl, hx, hb⟩
    refine ⟨_, rfl, ?_⟩
    obtain ⟨C0, C1, C2, n0, n1, n2, c0, c1, c2, rfl, hr, hv⟩ := hx
    refine hK.out _ _ (below_step hc hb) (fun hHeld => ?_)
    clear hK K
    refine norm_ (a' := ?_) ?_ ?_
    rotate_left
    · show Act.put _ (some 16) _ = _
      simp only [Act.put, List.setIfInBounds_toArray, List.set_cons_zero, List.set_cons_succ, i64_w, i32_w]
      rfl
    refine pure_ (i := 5) (N := some 11) (v := ?_) (a' := ?_) #[true, true, true, true, true, true, false, false, true, false, false] rfl rfl (any_of HT_.out (by kernel_rfl)) (fun _ _ _ h => hQp _ _ _ _ _ h) (Or.inl ⟨by rfl, ?_⟩) ?_ ?_
    rotate_left
    · intro w'
      go_simp
      with_reducible rfl
    rotate_left
    · simp only [Act.put, List.setIfInBounds_toArray, List.set_cons_zero, List.set_cons_succ, i64_w, i32_w]
      rfl
    refine pure_ (i := 6) (N := some 17) (v := ?_) (a' := ?_) #[true, true, true, true, true, true, true, false, true, false, false] rfl rfl (any_of HT_.out (by kernel_rfl)) (fun _ _ _ h => hQp _ _ _ _ _ h) (Or.inl ⟨by rfl, ?_⟩) ?_ ?_
    rotate_left
    · intro w'
      go_simp
      with_reducible rfl
    rotate_left
    · simp only [Act.put, List.setIfInBounds_toArray, List.set_cons_zero, List.set_cons_succ, i64_w, i32_w]
      rfl
    refine pure_ (i := 7) (N := some 18) (v := ?_) (a' := ?_) #[true, true, true, true, true, true, true, true, true, false, false] rfl rfl (any_of HT_.out (by kernel_rfl)) (fun _ _ _ h => hQp _ _ _ _ _ h) (Or.inl ⟨by rfl, ?_⟩) ?_ ?_
    rotate_left
    · intro w'
      go_simp
      with_reducible rfl
    rotate_left
    · simp only [Act.put, List.setIfInBounds_toArray, List.set_cons_zero, List.set_cons_succ, i64_w, i32_w]
      rfl
    simpa only [hM] using s1_3_4_8 _ x13 x15 _ x5 _ _ _ (below_step hc hb) ⟨h, C0, C1, C2, n0, n1, n2, c0, c1, c2, rfl, rfl, hr, hv⟩ (f8.keep hb)
  have s1_3 : ∀ (w2 : World) (x13 x15 x16 x5 x11 x17 x18 : Value), Below w1.heap.size w1 w2 → FtV w2 x13 f → FtV w2 x15 g → wpAnyLast Tryz.prog .any ops Q (fun w' => Below w1.heap.size w1 w') [] 7 #[true, true, true, true, false, false, false, false, false, false, false] (M x13 x15 x16 x5 x11 x17 x18) w2 := by
    intro w2 x13 x15 x16 x5 x11 x17 x18 hc f1 f3
    simp only [hM]
    subst hops
    refine with_tab tab4_1 (fun HT_ => ?_)
    refine two_ (i := 4) (j := 8) (Ni := some 16) (Nj := some 5) #[true, true, true, true, true, false, false, false, false, false, false] #[true, true, true, true, false, false, false, false, true, false, false] rfl rfl rfl rfl (two_of HT_.out (by kernel_rfl)) (by decide) (by decide) (fun K hK => ?_) (fun K hK => ?_)
    · refine goes_ Tryz.func14 (by kernel_rfl) rfl #[x13, x15] (by rfl) rfl rfl (by (try simp only [List.map_toArray, List.map_cons, List.map_nil]); first | done | rfl) ?_
      refine (HMg w2 _ _ f1 f3).mono ?_
      rintro e w3 ⟨v, h, rfl, hx, hb⟩
      refine ⟨_, rfl, ?_⟩
      replace hx : ∃ h, MergedV w3 v f g h := ⟨h, hx⟩
      refine hK.out _ _ (below_step hc hb) (fun hHeld => ?_)
      clear hK K
      refine norm_ (a' := ?_) ?_ ?_
      rotate_left
      · show Act.put _ (some 16) _ = _
        simp only [Act.put, List.setIfInBounds_toArray, List.set_cons_zero, List.set_cons_succ, i64_w, i32_w]
        rfl
      simpa only [hM] using s1_3_4 _ x13 x15 _ x5 x11 x17 x18 (below_step hc hb) hx
    · have hb := below_alloc (Below.refl w2.heap.size w2) (.cells #[.slice none 0 0, .slice none 0 0, .slice none 0 0] 25)
      have hx : Zb (w2.alloc (.cells #[.slice none 0 0, .slice none 0 0, .slice none 0 0] 25)) w1.heap.size (.pointer (some ⟨w2.heap.size, 0, none⟩)) := ⟨_, rfl, hc.size, heap_new w2 _⟩
      refine value_ (w1 := ?_) (v := ?_) (by rfl) rfl ?_ ?_
      rotate_left
      rotate_left
      · go_simp
        constructor
        · rfl
        · rfl
      refine hK.out _ _ (below_step hc hb) (fun hHeld => ?_)
      clear hK K
      refine norm_ (a' := ?_) ?_ ?_
      rotate_left
      · show Act.put _ (some 5) _ = _
        simp only [Act.put, List.setIfInBounds_toArray, List.set_cons_zero, List.set_cons_succ, i64_w, i32_w]
        rfl
      simpa only [hM] using s1_3_8 _ x13 x15 x16 _ x11 x17 x18 (below_step hc hb) (f1.below hb) (f3.below hb) hx
  have s1_8 : ∀ (w2 : World) (x13 x15 x16 x5 x11 x17 x18 : Value), Below w1.heap.size w1 w2 → FtV w2 x13 f → Zb w2 w1.heap.size x5 → wpAnyLast Tryz.prog .any ops Q (fun w' => Below w1.heap.size w1 w') [] 7 #[true, true, true, false, false, false, false, false, true, false, false] (M x13 x15 x16 x5 x11 x17 x18) w2 := by
    intro w2 x13 x15 x16 x5 x11 x17 x18 hc f1 f8
    simp only [hM]
    subst hops
    refine with_tab tab4_1 (fun HT_ => ?_)
    refine one_ (i := 3) (N := some 15) #[true, true, true, true, false, false, false, false, true, false, false] rfl rfl (one_of HT_.out (by kernel_rfl)) (by decide) (fun K hK => ?_)
    refine goes_ Tryz.func8 (by kernel_rfl) rfl #[.agg #[.slice B0 n0 b0, .slice B1 n1 b1, .slice B2 n2 b2]] (by rfl) rfl rfl (by (try simp only [List.map_toArray, List.map_cons, List.map_nil]); first | done | rfl) ?_
    refine (HCg w2 hc).mono ?_
    rintro e w3 ⟨v, rfl, hx, hb⟩
    refine ⟨_, rfl, ?_⟩
    refine hK.out _ _ (below_step hc hb) (fun hHeld => ?_)
    clear hK K
    refine norm_ (a' := ?_) ?_ ?_
    rotate_left
    · show Act.put _ (some 15) _ = _
      simp only [Act.put, List.setIfInBounds_toArray, List.set_cons_zero, List.set_cons_succ, i64_w, i32_w]
      rfl
    simpa only [hM] using s1_3_8 _ x13 _ x16 x5 x11 x17 x18 (below_step hc hb) (f1.below hb) hx (f8.keep hb)
  have s1 : ∀ (w2 : World) (x13 x15 x16 x5 x11 x17 x18 : Value), Below w1.heap.size w1 w2 → FtV w2 x13 f → wpAnyLast Tryz.prog .any ops Q (fun w' => Below w1.heap.size w1 w') [] 8 #[true, true, true, false, false, false, false, false, false, false, false] (M x13 x15 x16 x5 x11 x17 x18) w2 := by
    intro w2 x13 x15 x16 x5 x11 x17 x18 hc f1
    simp only [hM]
    subst hops
    refine with_tab tab4_1 (fun HT_ => ?_)
    refine two_ (i := 3) (j := 8) (Ni := some 15) (Nj := some 5) #[true, true, true, true, false, false, false, false, false, false, false] #[true, true, true, false, false, false, false, false, true, false, false] rfl rfl rfl rfl (two_of HT_.out (by kernel_rfl)) (by decide) (by decide) (fun K hK => ?_) (fun K hK => ?_)
    · refine goes_ Tryz.func8 (by kernel_rfl) rfl #[.agg #[.slice B0 n0 b0, .slice B1 n1 b1, .slice B2 n2 b2]] (by rfl) rfl rfl (by (try simp only [List.map_toArray, List.map_cons, List.map_nil]); first | done | rfl) ?_
      refine (HCg w2 hc).mono ?_
      rintro e w3 ⟨v, rfl, hx, hb⟩
      refine ⟨_, rfl, ?_⟩
      refine hK.out _ _ (below_step hc hb) (fun hHeld => ?_)
      clear hK K
      refine norm_ (a' := ?_) ?_ ?_
      rotate_left
      · show Act.put _ (some 15) _ = _
        simp only [Act.put, List.setIfInBounds_toArray, List.set_cons_zero, List.set_cons_succ, i64_w, i32_w]
        rfl
      simpa only [hM] using s1_3 _ x13 _ x16 x5 x11 x17 x18 (below_step hc hb) (f1.below hb) hx
    · have hb := below_alloc (Below.refl w2.heap.size w2) (.cells #[.slice none 0 0, .slice none 0 0, .slice none 0 0] 25)
      have hx : Zb (w2.alloc (.cells #[.slice none 0 0, .slice none 0 0, .slice none 0 0] 25)) w1.heap.size (.pointer (some ⟨w2.heap.size, 0, none⟩)) := ⟨_, rfl, hc.size, heap_new w2 _⟩
      refine value_ (w1 := ?_) (v := ?_) (by rfl) rfl ?_ ?_
      rotate_left
      rotate_left
      · go_simp
        constructor
        · rfl
        · rfl
      refine hK.out _ _ (below_step hc hb) (fun hHeld => ?_)
      clear hK K
      refine norm_ (a' := ?_) ?_ ?_
      rotate_left
      · show Act.put _ (some 5) _ = _
        simp only [Act.put, List.setIfInBounds_toArray, List.set_cons_zero, List.set_cons_succ, i64_w, i32_w]
        rfl
      simpa only [hM] using s1_8 _ x13 x15 x16 _ x11 x17 x18 (below_step hc hb) (f1.below hb) hx
  have s8 : ∀ (w2 : World) (x13 x15 x16 x5 x11 x17 x18 : Value), Below w1.heap.size w1 w2 → Zb w2 w1.heap.size x5 → wpAnyLast Tryz.prog .any ops Q (fun w' => Below w1.heap.size w1 w') [] 8 #[true, false, true, false, false, false, false, false, true, false, false] (M x13 x15 x16 x5 x11 x17 x18) w2 := by
    intro w2 x13 x15 x16 x5 x11 x17 x18 hc f8
    simp only [hM]
    subst hops
    refine with_tab tab4_1 (fun HT_ => ?_)
    refine one_ (i := 1) (N := some 13) #[true, true, true, false, false, false, false, false, true, false, false] rfl rfl (one_of HT_.out (by kernel_rfl)) (by decide) (fun K hK => ?_)
    refine goes_ Tryz.func8 (by kernel_rfl) rfl #[.agg #[.slice A0 m0 a0, .slice A1 m1 a1, .slice A2 m2 a2]] (by rfl) rfl rfl (by (try simp only [List.map_toArray, List.map_cons, List.map_nil]); first | done | rfl) ?_
    refine (HCf w2 hc).mono ?_
    rintro e w3 ⟨v, rfl, hx, hb⟩
    refine ⟨_, rfl, ?_⟩
    refine hK.out _ _ (below_step hc hb) (fun hHeld => ?_)
    clear hK K
    refine norm_ (a' := ?_) ?_ ?_
    rotate_left
    · show Act.put _ (some 13) _ = _
      simp only [Act.put, List.setIfInBounds_toArray, List.set_cons_zero, List.set_cons_succ, i64_w, i32_w]
      rfl
    simpa only [hM] using s1_8 _ _ x15 x16 x5 x11 x17 x18 (below_step hc hb) hx (f8.keep hb)
  have s : ∀ (w2 : World) (x13 x15 x16 x5 x11 x17 x18 : Value), Below w1.heap.size w1 w2 → wpAnyLast Tryz.prog .any ops Q (fun w' => Below w1.heap.size w1 w') [] 9 #[true, false, true, false, false, false, false, false, false, false, false] (M x13 x15 x16 x5 x11 x17 x18) w2 := by
    intro w2 x13 x15 x16 x5 x11 x17 x18 hc
    simp only [hM]
    subst hops
    refine with_tab tab4_1 (fun HT_ => ?_)
    refine two_ (i := 1) (j := 8) (Ni := some 13) (Nj := some 5) #[true, true, true, false, false, false, false, false, false, false, false] #[true, false, true, false, false, false, false, false, true, false, false] rfl rfl rfl rfl (two_of HT_.out (by kernel_rfl)) (by decide) (by decide) (fun K hK => ?_) (fun K hK => ?_)
    · refine goes_ Tryz.func8 (by kernel_rfl) rfl #[.agg #[.slice A0 m0 a0, .slice A1 m1 a1, .slice A2 m2 a2]] (by rfl) rfl rfl (by (try simp only [List.map_toArray, List.map_cons, List.map_nil]); first | done | rfl) ?_
      refine (HCf w2 hc).mono ?_
      rintro e w3 ⟨v, rfl, hx, hb⟩
      refine ⟨_, rfl, ?_⟩
      refine hK.out _ _ (below_step hc hb) (fun hHeld => ?_)
      clear hK K
      refine norm_ (a' := ?_) ?_ ?_
      rotate_left
      · show Act.put _ (some 13) _ = _
        simp only [Act.put, List.setIfInBounds_toArray, List.set_cons_zero, List.set_cons_succ, i64_w, i32_w]
        rfl
      simpa only [hM] using s1 _ _ x15 x16 x5 x11 x17 x18 (below_step hc hb) hx
    · have hb := below_alloc (Below.refl w2.heap.size w2) (.cells #[.slice none 0 0, .slice none 0 0, .slice none 0 0] 25)
      have hx : Zb (w2.alloc (.cells #[.slice none 0 0, .slice none 0 0, .slice none 0 0] 25)) w1.heap.size (.pointer (some ⟨w2.heap.size, 0, none⟩)) := ⟨_, rfl, hc.size, heap_new w2 _⟩
      refine value_ (w1 := ?_) (v := ?_) (by rfl) rfl ?_ ?_
      rotate_left
      rotate_left
      · go_simp
        constructor
        · rfl
        · rfl
      refine hK.out _ _ (below_step hc hb) (fun hHeld => ?_)
      clear hK K
      refine norm_ (a' := ?_) ?_ ?_
      rotate_left
      · show Act.put _ (some 5) _ = _
        simp only [Act.put, List.setIfInBounds_toArray, List.set_cons_zero, List.set_cons_succ, i64_w, i32_w]
        rfl
      simpa only [hM] using s8 _ x13 x15 x16 _ x11 x17 x18 (below_step hc hb) hx
  subst hops
  have hbD := below_drew1 (Below.refl w1.heap.size w1)
  refine start_ (n := 11) (S := fun w' => Below w1.heap.size w1 w') (ds := []) #[false, false, false, false, false, false, false, false, false, false, false] (by kernel_rfl) rfl rfl hbD (fun hHeld => ?_); refine with_tab tab4_1 (fun HT_ => ?_)
  generalize w1.drew = w2 at hbD hHeld ⊢
  refine take_ (i := 0) (N := some 12) (v := ?_) (a' := ?_) #[true, false, false, false, false, false, false, false, false, false, false] rfl rfl (take_of HT_.out (by kernel_rfl)) (fun _ _ _ h => hQp _ _ _ _ _ h) (Or.inl ⟨by rfl, ?_⟩) hHeld ?_ ?_
  rotate_left
  · intro w' hs
    obtain ⟨s0, s1, s2, s3, s4, s5⟩ := six hs D0 D1
    go_simp
    with_reducible rfl
  rotate_left
  · simp only [Act.put, List.setIfInBounds_toArray, List.set_cons_zero, List.set_cons_succ, i64_w, i32_w]
    rfl
  refine take_ (i := 2) (N := some 14) (v := ?_) (a' := ?_) #[true, false, true, false, false, false, false, false, false, false, false] rfl rfl (take_of HT_.out (by kernel_rfl)) (fun _ _ _ h => hQp _ _ _ _ _ h) (Or.inl ⟨by rfl, ?_⟩) hHeld ?_ ?_
  rotate_left
  · intro w' hs
    obtain ⟨s0, s1, s2, s3, s4, s5⟩ := six hs D0 D1
    go_simp
    with_reducible rfl
  rotate_left
  · simp only [Act.put, List.setIfInBounds_toArray, List.set_cons_zero, List.set_cons_succ, i64_w, i32_w]
    rfl
  simpa only [hM] using s _ _ _ _ _ _ _ _ hbD
set_option maxHeartbeats 16000000 in
set_option maxRecDepth 100000 in
theorem merges_reg5 {f g : Ft} {m0 m1 m2 n0 n1 n2 a0 a1 a2 b0 b1 b2 bf bg : Nat} {A0 A1 A2 B0 B1 B2 : Option Addr} {w1 : World} {Q : Exit → Act → World → Prop} {t0 t1 t2 t3 t4 t5 t6 t7 t8 t9 t10 t11 t12 t13 t14 t15 t16 t17 t18 t19 t20 t21 t22 t23 t24 t25 t26 t27 t28 t29 t30 t31 t32 t33 t34 t35 t36 t37 t38 t39 t40 t41 t42 t43 t44 t45 t46 t47 t48 t49 t50 t51 t52 t53 t54 t55 : Value} {ds : List Deferred}
    (HCf : ∀ W, Below w1.heap.size w1 W → Calls Tryz.prog 8 #[.agg #[.slice A0 m0 a0, .slice A1 m1 a1, .slice A2 m2 a2]] W fun e w' => ∃ v', e = .returned v' ∧ FtV w' v' f ∧ Below W.heap.size W w') (HCg : ∀ W, Below w1.heap.size w1 W → Calls Tryz.prog 8 #[.agg #[.slice B0 n0 b0, .slice B1 n1 b1, .slice B2 n2 b2]] W fun e w' => ∃ v', e = .returned v' ∧ FtV w' v' g ∧ Below W.heap.size W w')
    (HMg : ∀ (W : World) (v u : Value), FtV W v f → FtV W u g → Calls Tryz.prog 14 #[v, u] W fun e w' => ∃ x h, e = .returned x ∧ MergedV w' x f g h ∧ Below W.heap.size W w')
    (D0 : w1.heap[bf]? = some (.cells #[.slice A0 m0 a0, .slice A1 m1 a1, .slice A2 m2 a2] 25 (0, 0))) (D1 : w1.heap[bg]? = some (.cells #[.slice B0 n0 b0, .slice B1 n1 b1, .slice B2 n2 b2] 25 (0, 0)))
    (hQp : ∀ c a d v w, Q (.panic c) (Act.put a d v) w → Q (.panic c) a w)
    (hEnd : ∀ (w10 : World) (h : Ft) (bo : Nat) (vo x35 x36 x37 x38 x39 x34 x40 x41 : Value), MergeR f g h → w1.heap.size ≤ bo → Below w1.heap.size w1 w10 → BoxF w10 bo vo h → Q .normal ⟨#[t0, t1, .pointer (some ⟨bg, 0, none⟩), .pointer (some ⟨bf, 0, none⟩), t4, t5, t6, t7, t8, .pointer (some ⟨bo, 0, none⟩), .int .i64 (mergeC f g), t11, t12, t13, t14, t15, t16, t17, t18, t19, t20, t21, t22, t23, t24, t25, t26, t27, t28, t29, t30, t31, t32, t33, x34, x35, x36, x37, x38, x39, x40, x41, t42, t43, t44, t45, t46, t47, t48, t49, t50, t51, t52, t53, t54, t55], ds⟩ w10) :
    (Code.region 5 (opsOf Tryz.f4 5) true).wp Tryz.prog Q ⟨#[t0, t1, .pointer (some ⟨bg, 0, none⟩), .pointer (some ⟨bf, 0, none⟩), t4, t5, t6, t7, t8, t9, t10, t11, t12, t13, t14, t15, t16, t17, t18, t19, t20, t21, t22, t23, t24, t25, t26, t27, t28, t29, t30, t31, t32, t33, t34, t35, t36, t37, t38, t39, t40, t41, t42, t43, t44, t45, t46, t47, t48, t49, t50, t51, t52, t53, t54, t55], ds⟩ w1 := by
  obtain ⟨M, hM⟩ : ∃ M : Value → Value → Value → Value → Value → Value → Value → Act, M = fun x36 x38 x39 x9 x34 x40 x41 => ⟨#[t0, t1, .pointer (some ⟨bg, 0, none⟩), .pointer (some ⟨bf, 0, none⟩), t4, t5, t6, t7, t8, x9, t10, t11, t12, t13, t14, t15, t16, t17, t18, t19, t20, t21, t22, t23, t24, t25, t26, t27, t28, t29, t30, t31, t32, t33, x34, .agg #[.slice A0 m0 a0, .slice A1 m1 a1, .slice A2 m2 a2], x36, .agg #[.slice B0 n0 b0, .slice B1 n1 b1, .slice B2 n2 b2], x38, x39, x40, x41, t42, t43, t44, t45, t46, t47, t48, t49, t50, t51, t52, t53, t54, t55], ds⟩ := ⟨_, rfl⟩
  obtain ⟨ops, hops⟩ : ∃ ops, opsOf Tryz.f4 5 = ops := ⟨_, rfl⟩
  rw [hops]
  simp [opsOf, opsIn, Tryz.f4] at hops
  have s1_3_4_8 : ∀ (w2 : World) (x36 x38 x39 x9 x34 x40 x41 : Value), Below w1.heap.size w1 w2 → MergedE w2 x40 x41 f g → Zb w2 w1.heap.size x9 → wpAnyLast Tryz.prog .any ops Q (fun w' => Below w1.heap.size w1 w') [] 2 #[true, true, true, true, true, true, true, true, true, false, false] (M x36 x38 x39 x9 x34 x40 x41) w2 := by
    intro w2 x36 x38 x39 x9 x34 x40 x41 hc fE f8
    simp only [hM]
    subst hops
    refine with_tab tab4_5 (fun HT_ => ?_)
    obtain ⟨h, C0, C1, C2, n0, n1, n2, c0, c1, c2, rfl, rfl, hr, hv⟩ := fE
    obtain ⟨bo, rfl, hlo, hz⟩ := f8
    have hS := allSl (a := .slice none 0 0) (b := .slice none 0 0) (c := .slice none 0 0) rfl rfl rfl
    have HV := Aside0.mk hv
    have HR := Aside0.mk hr
    have HZ := Aside0.mk hz
    have HS := Aside0.mk hS
    have j0 : w2.cell? ⟨bo, 0, none⟩ = some (.slice none 0 0) := cell_of hz 0
    have j1 : w2.cell? ⟨bo, 1, none⟩ = some (.slice none 0 0) := cell_of hz 1
    have j2 : w2.cell? ⟨bo, 2, none⟩ = some (.slice none 0 0) := cell_of hz 2
    have k0 : w2.frozen? ⟨bo, 0, none⟩ = false := frozen_of hz 0
    have k1 : w2.frozen? ⟨bo, 1, none⟩ = false := frozen_of hz 1
    have k2 : w2.frozen? ⟨bo, 2, none⟩ = false := frozen_of hz 2
    clear hv hr hz hS
    refine one_ (i := 9) (N := none) #[true, true, true, true, true, true, true, true, true, true, false] rfl rfl (one_of HT_.out (by kernel_rfl)) (by decide) (fun K hK => ?_)
    refine skip_ (w1 := ?_) (by rfl) rfl ?_ ?_
    rotate_left
    · go_simp
      rfl
    have hFr : Fr w2 bo (((w2.setCell ⟨bo, 0, none⟩ (.slice C0 n0 c0)).setCell ⟨bo, 1, none⟩ (.slice C1 n1 c1)).setCell ⟨bo, 2, none⟩ (.slice C2 n2 c2)) := (((Fr.refl (lt_of HZ.out)).set 0 _).set 1 _).set 2 _
    have HV4 := Aside0.mk (HV.out.keep hFr HZ.out HS.out)
    have HX4 := Aside0.mk (show (((w2.setCell ⟨bo, 0, none⟩ (.slice C0 n0 c0)).setCell ⟨bo, 1, none⟩ (.slice C1 n1 c1)).setCell ⟨bo, 2, none⟩ (.slice C2 n2 c2)).heap[bo]? = some (.cells #[.slice C0 n0 c0, .slice C1 n1 c1, .slice C2 n2 c2] 25 (0, 0)) from setCell_heap (setCell_heap (setCell_heap HZ.out _) _) _)
    have hl : Below w1.heap.size w1 (((w2.setCell ⟨bo, 0, none⟩ (.slice C0 n0 c0)).setCell ⟨bo, 1, none⟩ (.slice C1 n1 c1)).setCell ⟨bo, 2, none⟩ (.slice C2 n2 c2)) := Below.trans hc (hFr.low.mono hlo)
    clear hFr
    generalize (((w2.setCell ⟨bo, 0, none⟩ (.slice C0 n0 c0)).setCell ⟨bo, 1, none⟩ (.slice C1 n1 c1)).setCell ⟨bo, 2, none⟩ (.slice C2 n2 c2)) = w4 at HV4 HX4 hl ⊢
    refine hK.out _ _ hl (fun hHeld => ?_)
    clear hK K
    refine pure_ (i := 10) (N := some 10) (v := ?_) (a' := ?_) #[true, true, true, true, true, true, true, true, true, true, true] rfl rfl (any_of HT_.out (by kernel_rfl)) (fun _ _ _ h => hQp _ _ _ _ _ h) (Or.inl ⟨by rfl, ?_⟩) ?_ ?_
    rotate_left
    · intro w'
      go_simp
      with_reducible rfl
    rotate_left
    · simp only [Act.put, List.setIfInBounds_toArray, List.set_cons_zero, List.set_cons_succ, i64_w, i32_w]
      rfl
    refine done_ (done_of HT_.out (by kernel_rfl)) ?_
    exact hEnd w4 h bo _ _ _ _ _ _ _ _ _ HR.out hlo hl ⟨C0, C1, C2, n0, n1, n2, c0, c1, c2, rfl, HX4.out, HV4.out⟩
  have s1_3_4 : ∀ (w2 : World) (x36 x38 x39 x9 x34 x40 x41 : Value), Below w1.heap.size w1 w2 → (∃ h, MergedV w2 x39 f g h) → wpAnyLast Tryz.prog .any ops Q (fun w' => Below w1.heap.size w1 w') [] 6 #[true, true, true, true, true, false, false, false, false, false, false] (M x36 x38 x39 x9 x34 x40 x41) w2 := by
    intro w2 x36 x38 x39 x9 x34 x40 x41 hc f4
    simp only [hM]
    subst hops
    refine with_tab tab4_5 (fun HT_ => ?_)
    obtain ⟨h, C0, C1, C2, n0, n1, n2, c0, c1, c2, rfl, hr, hv⟩ := f4
    refine pure_ (i := 5) (N := some 34) (v := ?_) (a' := ?_) #[true, true, true, true, true, true, false, false, false, false, false] rfl rfl (any_of HT_.out (by kernel_rfl)) (fun _ _ _ h => hQp _ _ _ _ _ h) (Or.inl ⟨by rfl, ?_⟩) ?_ ?_
    rotate_left
    · intro w'
      go_simp
      with_reducible rfl
    rotate_left
    · simp only [Act.put, List.setIfInBounds_toArray, List.set_cons_zero, List.set_cons_succ, i64_w, i32_w]
      rfl
    refine pure_ (i := 6) (N := some 40) (v := ?_) (a' := ?_) #[true, true, true, true, true, true, true, false, false, false, false] rfl rfl (any_of HT_.out (by kernel_rfl)) (fun _ _ _ h => hQp _ _ _ _ _ h) (Or.inl ⟨by rfl, ?_⟩) ?_ ?_
    rotate_left
    · intro w'
      go_simp
      with_reducible rfl
    rotate_left
    · simp only [Act.put, List.setIfInBounds_toArray, List.set_cons_zero, List.set_cons_succ, i64_w, i32_w]
      rfl
    refine pure_ (i := 7) (N := some 41) (v := ?_) (a' := ?_) #[true, true, true, true, true, true, true, true, false, false, false] rfl rfl (any_of HT_.out (by kernel_rfl)) (fun _ _ _ h => hQp _ _ _ _ _ h) (Or.inl ⟨by rfl, ?_⟩) ?_ ?_
    rotate_left
    · intro w'
      go_simp
      with_reducible rfl
    rotate_left
    · simp only [Act.put, List.setIfInBounds_toArray, List.set_cons_zero, List.set_cons_succ, i64_w, i32_w]
      rfl
    refine one_ (i := 8) (N := some 9) #[true, true, true, true, true, true, true, true, true, false, false] rfl rfl (one_of HT_.out (by kernel_rfl)) (by decide) (fun K hK => ?_)
    have hb := below_alloc (Below.refl w2.heap.size w2) (.cells #[.slice none 0 0, .slice none 0 0, .slice none 0 0] 25)
    have hx : Zb (w2.alloc (.cells #[.slice none 0 0, .slice none 0 0, .slice none 0 0] 25)) w1.heap.size (.pointer (some ⟨w2.heap.size, 0, none⟩)) := ⟨_, rfl, hc.size, heap_new w2 _⟩
    refine value_ (w1 := ?_) (v := ?_) (by rfl) rfl ?_ ?_
    rotate_left
    rotate_left
    · go_simp
      constructor
      · rfl
      · rfl
    refine hK.out _ _ (below_step hc hb) (fun hHeld => ?_)
    clear hK K
    refine norm_ (a' := ?_) ?_ ?_
    rotate_left
    · show Act.put _ (some 9) _ = _
      simp only [Act.put, List.setIfInBounds_toArray, List.set_cons_zero, List.set_cons_succ, i64_w, i32_w]
      rfl
    simpa only [hM] using s1_3_4_8 _ x36 x38 _ _ _ _ _ (below_step hc hb) ⟨h, C0, C1, C2, n0, n1, n2, c0, c1, c2, rfl, rfl, hr, hv.below hb⟩ hx
  have s1_3_8 : ∀ (w2 : World) (x36 x38 x39 x9 x34 x40 x41 : Value), Below w1.heap.size w1 w2 → FtV w2 x36 f → FtV w2 x38 g → Zb w2 w1.heap.size x9 → wpAnyLast Tryz.prog .any ops Q (fun w' => Below w1.heap.size w1 w') [] 6 #[true, true, true, true, false, false, false, false, true, false, false] (M x36 x38 x39 x9 x34 x40 x41) w2 := by
    intro w2 x36 x38 x39 x9 x34 x40 x41 hc f1 f3 f8
    simp only [hM]
    subst hops
    refine with_tab tab4_5 (fun HT_ => ?_)
    refine one_ (i := 4) (N := some 39) #[true, true, true, true, true, false, false, false, true, false, false] rfl rfl (one_of HT_.out (by kernel_rfl)) (by decide) (fun K hK => ?_)
    refine goes_ Tryz.func14 (by kernel_rfl) rfl #[x36, x38] (by rfl) rfl rfl (by (try simp only [List.map_toArray, List.map_cons, List.map_nil]); first | done | rfl) ?_
    refine (HMg w2 _ _ f1 f3).mono ?_
    rintro e w3 ⟨v, h, rfl, hx, hb⟩
    refine ⟨_, rfl, ?_⟩
    obtain ⟨C0, C1, C2, n0, n1, n2, c0, c1, c2, rfl, hr, hv⟩ := hx
    refine hK.out _ _ (below_step hc hb) (fun hHeld => ?_)
    clear hK K
    refine norm_ (a' := ?_) ?_ ?_
    rotate_left
    · show Act.put _ (some 39) _ = _
      simp only [Act.put, List.setIfInBounds_toArray, List.set_cons_zero, List.set_cons_succ, i64_w, i32_w]
      rfl
    refine pure_ (i := 5) (N := some 34) (v := ?_) (a' := ?_) #[true, true, true, true, true, true, false, false, true, false, false] rfl rfl (any_of HT_.out (by kernel_rfl)) (fun _ _ _ h => hQp _ _ _ _ _ h) (Or.inl ⟨by rfl, ?_⟩) ?_ ?_
    rotate_left
    · intro w'
      go_simp
      with_reducible rfl
    rotate_left
    · simp only [Act.put, List.setIfInBounds_toArray, List.set_cons_zero, List.set_cons_succ, i64_w, i32_w]
      rfl
    refine pure_ (i := 6) (N := some 40) (v := ?_) (a' := ?_) #[true, true, true, true, true, true, true, false, true, false, false] rfl rfl (any_of HT_.out (by kernel_rfl)) (fun _ _ _ h => hQp _ _ _ _ _ h) (Or.inl ⟨by rfl, ?_⟩) ?_ ?_
    rotate_left
    · intro w'
      go_simp
      with_reducible rfl
    rotate_left
    · simp only [Act.put, List.setIfInBounds_toArray, List.set_cons_zero, List.set_cons_succ, i64_w, i32_w]
      rfl
    refine pure_ (i := 7) (N := some 41) (v := ?_) (a' := ?_) #[true, true, true, true, true, true, true, true, true, false, false] rfl rfl (any_of HT_.out (by kernel_rfl)) (fun _ _ _ h => hQp _ _ _ _ _ h) (Or.inl ⟨by rfl, ?_⟩) ?_ ?_
    rotate_left
    · intro w'
      go_simp
      with_reducible rfl
    rotate_left
    · simp only [Act.put, List.setIfInBounds_toArray, List.set_cons_zero, List.set_cons_succ, i64_w, i32_w]
      rfl
    simpa only [hM] using s1_3_4_8 _ x36 x38 _ x9 _ _ _ (below_step hc hb) ⟨h, C0, C1, C2, n0, n1, n2, c0, c1, c2, rfl, rfl, hr, hv⟩ (f8.keep hb)
  have s1_3 : ∀ (w2 : World) (x36 x38 x39 x9 x34 x40 x41 : Value), Below w1.heap.size w1 w2 → FtV w2 x36 f → FtV w2 x38 g → wpAnyLast Tryz.prog .any ops Q (fun w' => Below w1.heap.size w1 w') [] 7 #[true, true, true, true, false, false, false, false, false, false, false] (M x36 x38 x39 x9 x34 x40 x41) w2 := by
    intro w2 x36 x38 x39 x9 x34 x40 x41 hc f1 f3
    simp only [hM]
    subst hops
    refine with_tab tab4_5 (fun HT_ => ?_)
    refine two_ (i := 4) (j := 8) (Ni := some 39) (Nj := some 9) #[true, true, true, true, true, false, false, false, false, false, false] #[true, true, true, true, false, false, false, false, true, false, false] rfl rfl rfl rfl (two_of HT_.out (by kernel_rfl)) (by decide) (by decide) (fun K hK => ?_) (fun K hK => ?_)
    · refine goes_ Tryz.func14 (by kernel_rfl) rfl #[x36, x38] (by rfl) rfl rfl (by (try simp only [List.map_toArray, List.map_cons, List.map_nil]); first | done | rfl) ?_
      refine (HMg w2 _ _ f1 f3).mono ?_
      rintro e w3 ⟨v, h, rfl, hx, hb⟩
      refine ⟨_, rfl, ?_⟩
      replace hx : ∃ h, MergedV w3 v f g h := ⟨h, hx⟩
      refine hK.out _ _ (below_step hc hb) (fun hHeld => ?_)
      clear hK K
      refine norm_ (a' := ?_) ?_ ?_
      rotate_left
      · show Act.put _ (some 39) _ = _
        simp only [Act.put, List.setIfInBounds_toArray, List.set_cons_zero, List.set_cons_succ, i64_w, i32_w]
        rfl
      simpa only [hM] using s1_3_4 _ x36 x38 _ x9 x34 x40 x41 (below_step hc hb) hx
    · have hb := below_alloc (Below.refl w2.heap.size w2) (.cells #[.slice none 0 0, .slice none 0 0, .slice none 0 0] 25)
      have hx : Zb (w2.alloc (.cells #[.slice none 0 0, .slice none 0 0, .slice none 0 0] 25)) w1.heap.size (.pointer (some ⟨w2.heap.size, 0, none⟩)) := ⟨_, rfl, hc.size, heap_new w2 _⟩
      refine value_ (w1 := ?_) (v := ?_) (by rfl) rfl ?_ ?_
      rotate_left
      rotate_left
      · go_simp
        constructor
        · rfl
        · rfl
      refine hK.out _ _ (below_step hc hb) (fun hHeld => ?_)
      clear hK K
      refine norm_ (a' := ?_) ?_ ?_
      rotate_left
      · show Act.put _ (some 9) _ = _
        simp only [Act.put, List.setIfInBounds_toArray, List.set_cons_zero, List.set_cons_succ, i64_w, i32_w]
        rfl
      simpa only [hM] using s1_3_8 _ x36 x38 x39 _ x34 x40 x41 (below_step hc hb) (f1.below hb) (f3.below hb) hx
  have s1_8 : ∀ (w2 : World) (x36 x38 x39 x9 x34 x40 x41 : Value), Below w1.heap.size w1 w2 → FtV w2 x36 f → Zb w2 w1.heap.size x9 → wpAnyLast Tryz.prog .any ops Q (fun w' => Below w1.heap.size w1 w') [] 7 #[true, true, true, false, false, false, false, false, true, false, false] (M x36 x38 x39 x9 x34 x40 x41) w2 := by
    intro w2 x36 x38 x39 x9 x34 x40 x41 hc f1 f8
    simp only [hM]
    subst hops
    refine with_tab tab4_5 (fun HT_ => ?_)
    refine one_ (i := 3) (N := some 38) #[true, true, true, true, false, false, false, false, true, false, false] rfl rfl (one_of HT_.out (by kernel_rfl)) (by decide) (fun K hK => ?_)
    refine goes_ Tryz.func8 (by kernel_rfl) rfl #[.agg #[.slice B0 n0 b0, .slice B1 n1 b1, .slice B2 n2 b2]] (by rfl) rfl rfl (by (try simp only [List.map_toArray, List.map_cons, List.map_nil]); first | done | rfl) ?_
    refine (HCg w2 hc).mono ?_
    rintro e w3 ⟨v, rfl, hx, hb⟩
    refine ⟨_, rfl, ?_⟩
    refine hK.out _ _ (below_step hc hb) (fun hHeld => ?_)
    clear hK K
    refine norm_ (a' := ?_) ?_ ?_
    rotate_left
    · show Act.put _ (some 38) _ = _
      simp only [Act.put, List.setIfInBounds_toArray, List.set_cons_zero, List.set_cons_succ, i64_w, i32_w]
      rfl
    simpa only [hM] using s1_3_8 _ x36 _ x39 x9 x34 x40 x41 (below_step hc hb) (f1.below hb) hx (f8.keep hb)
  have s1 : ∀ (w2 : World) (x36 x38 x39 x9 x34 x40 x41 : Value), Below w1.heap.size w1 w2 → FtV w2 x36 f → wpAnyLast Tryz.prog .any ops Q (fun w' => Below w1.heap.size w1 w') [] 8 #[true, true, true, false, false, false, false, false, false, false, false] (M x36 x38 x39 x9 x34 x40 x41) w2 := by
    intro w2 x36 x38 x39 x9 x34 x40 x41 hc f1
    simp only [hM]
    subst hops
    refine with_tab tab4_5 (fun HT_ => ?_)
    refine two_ (i := 3) (j := 8) (Ni := some 38) (Nj := some 9) #[true, true, true, true, false, false, false, false, false, false, false] #[true, true, true, false, false, false, false, false, true, false, false] rfl rfl rfl rfl (two_of HT_.out (by kernel_rfl)) (by decide) (by decide) (fun K hK => ?_) (fun K hK => ?_)
    · refine goes_ Tryz.func8 (by kernel_rfl) rfl #[.agg #[.slice B0 n0 b0, .slice B1 n1 b1, .slice B2 n2 b2]] (by rfl) rfl rfl (by (try simp only [List.map_toArray, List.map_cons, List.map_nil]); first | done | rfl) ?_
      refine (HCg w2 hc).mono ?_
      rintro e w3 ⟨v, rfl, hx, hb⟩
      refine ⟨_, rfl, ?_⟩
      refine hK.out _ _ (below_step hc hb) (fun hHeld => ?_)
      clear hK K
      refine norm_ (a' := ?_) ?_ ?_
      rotate_left
      · show Act.put _ (some 38) _ = _
        simp only [Act.put, List.setIfInBounds_toArray, List.set_cons_zero, List.set_cons_succ, i64_w, i32_w]
        rfl
      simpa only [hM] using s1_3 _ x36 _ x39 x9 x34 x40 x41 (below_step hc hb) (f1.below hb) hx
    · have hb := below_alloc (Below.refl w2.heap.size w2) (.cells #[.slice none 0 0, .slice none 0 0, .slice none 0 0] 25)
      have hx : Zb (w2.alloc (.cells #[.slice none 0 0, .slice none 0 0, .slice none 0 0] 25)) w1.heap.size (.pointer (some ⟨w2.heap.size, 0, none⟩)) := ⟨_, rfl, hc.size, heap_new w2 _⟩
      refine value_ (w1 := ?_) (v := ?_) (by rfl) rfl ?_ ?_
      rotate_left
      rotate_left
      · go_simp
        constructor
        · rfl
        · rfl
      refine hK.out _ _ (below_step hc hb) (fun hHeld => ?_)
      clear hK K
      refine norm_ (a' := ?_) ?_ ?_
      rotate_left
      · show Act.put _ (some 9) _ = _
        simp only [Act.put, List.setIfInBounds_toArray, List.set_cons_zero, List.set_cons_succ, i64_w, i32_w]
        rfl
      simpa only [hM] using s1_8 _ x36 x38 x39 _ x34 x40 x41 (below_step hc hb) (f1.below hb) hx
  have s8 : ∀ (w2 : World) (x36 x38 x39 x9 x34 x40 x41 : Value), Below w1.heap.size w1 w2 → Zb w2 w1.heap.size x9 → wpAnyLast Tryz.prog .any ops Q (fun w' => Below w1.heap.size w1 w') [] 8 #[true, false, true, false, false, false, false, false, true, false, false] (M x36 x38 x39 x9 x34 x40 x41) w2 := by
    intro w2 x36 x38 x39 x9 x34 x40 x41 hc f8
    simp only [hM]
    subst hops
    refine with_tab tab4_5 (fun HT_ => ?_)
    refine one_ (i := 1) (N := some 36) #[true, true, true, false, false, false, false, false, true, false, false] rfl rfl (one_of HT_.out (by kernel_rfl)) (by decide) (fun K hK => ?_)
    refine goes_ Tryz.func8 (by kernel_rfl) rfl #[.agg #[.slice A0 m0 a0, .slice A1 m1 a1, .slice A2 m2 a2]] (by rfl) rfl rfl (by (try simp only [List.map_toArray, List.map_cons, List.map_nil]); first | done | rfl) ?_
    refine (HCf w2 hc).mono ?_
    rintro e w3 ⟨v, rfl, hx, hb⟩
    refine ⟨_, rfl, ?_⟩
    refine hK.out _ _ (below_step hc hb) (fun hHeld => ?_)
    clear hK K
    refine norm_ (a' := ?_) ?_ ?_
    rotate_left
    · show Act.put _ (some 36) _ = _
      simp only [Act.put, List.setIfInBounds_toArray, List.set_cons_zero, List.set_cons_succ, i64_w, i32_w]
      rfl
    simpa only [hM] using s1_8 _ _ x38 x39 x9 x34 x40 x41 (below_step hc hb) hx (f8.keep hb)
  have s : ∀ (w2 : World) (x36 x38 x39 x9 x34 x40 x41 : Value), Below w1.heap.size w1 w2 → wpAnyLast Tryz.prog .any ops Q (fun w' => Below w1.heap.size w1 w') [] 9 #[true, false, true, false, false, false, false, false, false, false, false] (M x36 x38 x39 x9 x34 x40 x41) w2 := by
    intro w2 x36 x38 x39 x9 x34 x40 x41 hc
    simp only [hM]
    subst hops
    refine with_tab tab4_5 (fun HT_ => ?_)
    refine two_ (i := 1) (j := 8) (Ni := some 36) (Nj := some 9) #[true, true, true, false, false, false, false, false, false, false, false] #[true, false, true, false, false, false, false, false, true, false, false] rfl rfl rfl rfl (two_of HT_.out (by kernel_rfl)) (by decide) (by decide) (fun K hK => ?_) (fun K hK => ?_)
    · refine goes_ Tryz.func8 (by kernel_rfl) rfl #[.agg #[.slice A0 m0 a0, .slice A1 m1 a1, .slice A2 m2 a2]] (by rfl) rfl rfl (by (try simp only [List.map_toArray, List.map_cons, List.map_nil]); first | done | rfl) ?_
      refine (HCf w2 hc).mono ?_
      rintro e w3 ⟨v, rfl, hx, hb⟩
      refine ⟨_, rfl, ?_⟩
      refine hK.out _ _ (below_step hc hb) (fun hHeld => ?_)
      clear hK K
      refine norm_ (a' := ?_) ?_ ?_
      rotate_left
      · show Act.put _ (some 36) _ = _
        simp only [Act.put, List.setIfInBounds_toArray, List.set_cons_zero, List.set_cons_succ, i64_w, i32_w]
        rfl
      simpa only [hM] using s1 _ _ x38 x39 x9 x34 x40 x41 (below_step hc hb) hx
    · have hb := below_alloc (Below.refl w2.heap.size w2) (.cells #[.slice none 0 0, .slice none 0 0, .slice none 0 0] 25)
      have hx : Zb (w2.alloc (.cells #[.slice none 0 0, .slice none 0 0, .slice none 0 0] 25)) w1.heap.size (.pointer (some ⟨w2.heap.size, 0, none⟩)) := ⟨_, rfl, hc.size, heap_new w2 _⟩
      refine value_ (w1 := ?_) (v := ?_) (by rfl) rfl ?_ ?_
      rotate_left
      rotate_left
      · go_simp
        constructor
        · rfl
        · rfl
      refine hK.out _ _ (below_step hc hb) (fun hHeld => ?_)
      clear hK K
      refine norm_ (a' := ?_) ?_ ?_
      rotate_left
      · show Act.put _ (some 9) _ = _
        simp only [Act.put, List.setIfInBounds_toArray, List.set_cons_zero, List.set_cons_succ, i64_w, i32_w]
        rfl
      simpa only [hM] using s8 _ x36 x38 x39 _ x34 x40 x41 (below_step hc hb) hx
  subst hops
  have hbD := below_drew1 (Below.refl w1.heap.size w1)
  refine start_ (n := 11) (S := fun w' => Below w1.heap.size w1 w') (ds := []) #[false, false, false, false, false, false, false, false, false, false, false] (by kernel_rfl) rfl rfl hbD (fun hHeld => ?_); refine with_tab tab4_5 (fun HT_ => ?_)
  generalize w1.drew = w2 at hbD hHeld ⊢
  refine take_ (i := 0) (N := some 35) (v := ?_) (a' := ?_) #[true, false, false, false, false, false, false, false, false, false, false] rfl rfl (take_of HT_.out (by kernel_rfl)) (fun _ _ _ h => hQp _ _ _ _ _ h) (Or.inl ⟨by rfl, ?_⟩) hHeld ?_ ?_
  rotate_left
  · intro w' hs
    obtain ⟨s0, s1, s2, s3, s4, s5⟩ := six hs D0 D1
    go_simp
    with_reducible rfl
  rotate_left
  · simp only [Act.put, List.setIfInBounds_toArray, List.set_cons_zero, List.set_cons_succ, i64_w, i32_w]
    rfl
  refine take_ (i := 2) (N := some 37) (v := ?_) (a' := ?_) #[true, false, true, false, false, false, false, false, false, false, false] rfl rfl (take_of HT_.out (by kernel_rfl)) (fun _ _ _ h => hQp _ _ _ _ _ h) (Or.inl ⟨by rfl, ?_⟩) hHeld ?_ ?_
  rotate_left
  · intro w' hs
    obtain ⟨s0, s1, s2, s3, s4, s5⟩ := six hs D0 D1
    go_simp
    with_reducible rfl
  rotate_left
  · simp only [Act.put, List.setIfInBounds_toArray, List.set_cons_zero, List.set_cons_succ, i64_w, i32_w]
    rfl
  simpa only [hM] using s _ _ _ _ _ _ _ _ hbD
set_option maxHeartbeats 16000000 in
set_option maxRecDepth 100000 in
theorem merges_any (f g : Ft) (A0 A1 A2 B0 B1 B2 : Option Addr) (a0 a1 a2 b0 b1 b2 : Nat) (w : World) (hf : FtR w A0 A1 A2 a0 a1 a2 f) (hg : FtR w B0 B1 B2 b0 b1 b2 g) (hfs : f.small) (hgs : g.small) (hfw : f.wfs) (hgw : g.wfs) :
    Calls Tryz.prog 4 #[.agg #[.slice A0 f.ps.length a0, .slice A1 f.ss.length a1, .slice A2 f.ws.length a2], .agg #[.slice B0 g.ps.length b0, .slice B1 g.ss.length b1, .slice B2 g.ws.length b2]] w fun e w' => e = .returned (.bool true) ∧ Below w.heap.size w w' := by
  generalize hW : (w.alloc (ftO A0 A1 A2 a0 a1 a2 f)).alloc (ftO B0 B1 B2 b0 b1 b2 g) = w1
  have hB1 : Below w.heap.size w w1 := by rw [← hW]; exact below_alloc (below_alloc (Below.refl _ _) _) _
  have d0 : w1.heap[w.heap.size]? = some (ftO A0 A1 A2 a0 a1 a2 f) := by rw [← hW]; exact heap_old (heap_new _ _)
  have d1 : w1.heap[w.heap.size + 1]? = some (ftO B0 B1 B2 b0 b1 b2 g) := by rw [← hW]; have := heap_new (w.alloc (ftO A0 A1 A2 a0 a1 a2 f)) (ftO B0 B1 B2 b0 b1 b2 g); rw [size_new] at this; exact this
  have HF := Aside0.mk (show ∀ W, Below w1.heap.size w1 W → FtV W (.agg #[.slice A0 f.ps.length a0, .slice A1 f.ss.length a1, .slice A2 f.ws.length a2]) f from fun W h => ⟨_, _, _, _, _, _, rfl, hf.below (below_step hB1 h)⟩)
  have HG := Aside0.mk (show ∀ W, Below w1.heap.size w1 W → FtV W (.agg #[.slice B0 g.ps.length b0, .slice B1 g.ss.length b1, .slice B2 g.ws.length b2]) g from fun W h => ⟨_, _, _, _, _, _, rfl, hg.below (below_step hB1 h)⟩)
  have HM := Aside0.mk (show ∀ (W : World) (v u : Value), FtV W v f → FtV W u g → Calls Tryz.prog 14 #[v, u] W fun e w' => ∃ x h, e = .returned x ∧ MergedV w' x f g h ∧ Below W.heap.size W w' from fun W v u hv hu => mergedV hv hu hfs hgs hfw hgw)
  have HM' := Aside0.mk (show ∀ (W : World) (v u : Value), FtV W v g → FtV W u f → Calls Tryz.prog 14 #[v, u] W fun e w' => ∃ x h, e = .returned x ∧ MergedV w' x g f h ∧ Below W.heap.size W w' from fun W v u hv hu => mergedV hv hu hgs hfs hgw hfw)
  have HB1 := Aside0.mk hB1
  have D0 := Aside0.mk d0
  have D1 := Aside0.mk d1
  have HFs := Aside0.mk hfs
  have HGs := Aside0.mk hgs
  unfold ftO at hW D0 D1
  have HW := Aside0.mk hW
  clear hW hB1 d0 d1 hf hg hfs hgs hfw hgw
  generalize f.ps.length = m0 at *
  generalize f.ss.length = m1 at *
  generalize f.ws.length = m2 at *
  generalize g.ps.length = n0 at *
  generalize g.ss.length = n1 at *
  generalize g.ws.length = n2 at *
  obtain ⟨mc, hmc⟩ : ∃ c, c = mergeC f g := ⟨_, rfl⟩
  obtain ⟨mc', hmc'⟩ : ∃ c, c = mergeC g f := ⟨_, rfl⟩
  have HMc := Aside0.mk hmc
  have HMc' := Aside0.mk hmc'
  clear hmc hmc'
  go_enter Tryz.func4, Tryz.ntmps4
  --@A
  go_wp2_with fail
  rw [HW.out]
  clear HW
  refine merges_reg1 (t2 := undef) (t3 := undef) (fun W h => copyV (HF.out W h) HFs.out) (fun W h => copyV (HG.out W h) HGs.out) HM.out D0.out D1.out (fun _ _ d _ _ h => by cases d <;> exact h) (fun w2 h bo vo y0 y1 y2 y3 y4 y5 y6 y7 hr hlo hb hx => ?_)
  obtain ⟨C0, C1, C2, k0, k1, k2, c0, c1, c2, rfl, he, hv⟩ := hx
  rw [← HMc.out]
  have HC2 := Aside0.mk hb
  have HR := Aside0.mk hr
  have HV := Aside0.mk hv
  have E2 := Aside0.mk he
  obtain ⟨p0, p1, p2, q0, q1, q2⟩ := six HC2.out D0.out D1.out
  clear hb hr hv he hlo
  --@B
  go_wp2_with fail
  refine (rmergeV (HF.out w2 HC2.out) (HG.out w2 HC2.out) HFs.out HGs.out).mono ?_
  rintro e w3 ⟨h', v', rfl, hr, hv, hb⟩
  obtain rfl := hr.one HR.out
  have HC3 := Aside0.mk (below_step HC2.out hb)
  have E3 := Aside0.mk ((hb.block _ (lt_of E2.out)).trans E2.out)
  have HV3 := Aside0.mk (HV.out.below hb)
  obtain ⟨X0, X1, X2, x0, x1, x2, hvv, -⟩ := id hv
  unfold fv at hvv
  subst hvv
  have HY := Aside0.mk hv
  rw [← HMc.out]
  clear hb hr hv p0 p1 p2 q0 q1 q2 HV E2
  generalize h'.ps.length = z0 at *
  generalize h'.ss.length = z1 at *
  generalize h'.ws.length = z2 at *
  generalize hW4 : w3.alloc (.cells #[.slice X0 z0 x0, .slice X1 z1 x1, .slice X2 z2 x2] 25) = w4
  have hb4 : Below w3.heap.size w3 w4 := by rw [← hW4]; exact below_alloc (Below.refl _ _) _
  have F4 : w4.heap[w3.heap.size]? = some (.cells #[.slice X0 z0 x0, .slice X1 z1 x1, .slice X2 z2 x2] 25) := by rw [← hW4]; exact heap_new _ _
  have HC4 := Aside0.mk (below_step HC3.out hb4)
  have E4 := Aside0.mk ((hb4.block _ (lt_of E3.out)).trans E3.out)
  have HV4 := Aside0.mk (HV3.out.below hb4)
  have HY4 := Aside0.mk (HY.out.below hb4)
  have h6 := six (Below.refl w4.heap.size w4) E4.out F4
  rw [← hW4] at h6
  obtain ⟨p0, p1, p2, q0, q1, q2⟩ := h6
  have HW4 := Aside0.mk hW4
  clear hb4 hW4 F4 HV3 E3
  --@C
  go_wp2_with fail
  rw [HW4.out]
  refine (sameV HV4.out HY4.out HR.out.small).mono ?_
  rintro e w5 ⟨rfl, hb⟩
  have HC5 := Aside0.mk (below_step HC4.out hb)
  have E5 := Aside0.mk ((hb.block _ (lt_of E4.out)).trans E4.out)
  have HV5 := Aside0.mk (HV4.out.below hb)
  clear hb p0 p1 p2 q0 q1 q2 HW4 HV4 HY4 HY
  --@D
  go_wp2_with fail
  refine merges_reg5 (f := g) (g := f) (t2 := undef) (t3 := undef) (fun W h => copyV (HG.out W (below_step HC5.out h)) HGs.out) (fun W h => copyV (HF.out W (below_step HC5.out h)) HFs.out) HM'.out ((HC5.out.block _ (lt_of D1.out)).trans D1.out) ((HC5.out.block _ (lt_of D0.out)).trans D0.out) (fun _ _ d _ _ h => by cases d <;> exact h) (fun w6 k bo' vo y0 y1 y2 y3 y4 y5 y6 y7 hr hlo hb hx => ?_)
  obtain ⟨G0, G1, G2, j0, j1, j2, g0, g1, g2, rfl, he, hv⟩ := hx
  rw [← HMc'.out]
  have HC6 := Aside0.mk (below_step HC5.out hb)
  have E6 := (hb.block _ (lt_of E5.out)).trans E5.out
  have HV6 := Aside0.mk (HV5.out.below hb)
  have HVk := Aside0.mk hv
  obtain ⟨p0, p1, p2, q0, q1, q2⟩ := six (Below.refl w6.heap.size w6) E6 he
  by_cases hc : mc = 0
  · have hm : mergeC f g = 0 := HMc.out.symm.trans hc
    have hk := HR.out.comm hr hm
    subst hk
    have hc' : mc' = 0 := HMc'.out.trans (merge_comm hm)
    have hsame := sameV HV6.out HVk.out HR.out.small
    have HSm := Aside0.mk hsame
    clear hb hr hv he hlo E6 hm hsame
    subst hc hc'
    --@E
    go_wp2_with (first | (go_at_call 10; refine HSm.out.mono ?_; rintro e w7 ⟨rfl, hb7⟩; have HB7 := Aside0.mk hb7; clear hb7) | (go_at_call 13; refine (awake_any w7).mono ?_; rintro e w8 ⟨rfl, hb8⟩; have HB8 := Aside0.mk hb8; clear hb8))
    go_ret
    exact ⟨rfl, below_step (below_step (below_step HB1.out HC6.out) HB7.out) HB8.out⟩
  · have hcb : (mc == 0) = false := by simpa using hc
    clear hb hr hv he hlo E6
    --@F
    go_wp2_with (go_at_call 13; refine (awake_any w6).mono ?_; rintro e w8 ⟨rfl, hb8⟩; have HB8 := Aside0.mk hb8; clear hb8)
    go_ret
    exact ⟨rfl, below_step (below_step HB1.out HC6.out) HB8.out⟩
end Go.Proofs.YtldlenjfpjihdaaGreat.PS
end
section
namespace Go.Proofs.YtldlenjfpjihdaaGreat.setsMerges
open Go.ChangeShapes Go.WideShapes Go.ChangeAt Go.RowKit Go.Proofs.YtldlenjfpjihdaaGreatW.PrintWords Go.Proofs.YtldlenjfpjihdaaGreat.PS Go.Proofs.YtldlenjfpjihdaaGreat.OpenK
open Go.ChangeMaps (open_string shut_string)
set_option linter.unusedVariables false
theorem own : ownKnob Tryz.prog.godebug = none := by kernel_rfl
theorem laidOut : laidOutB Tryz.prog = true := by kernel_rfl
set_option maxRecDepth 100000 in
theorem lifted (os : Os) (started : os.Started) (H : Type) (enc : TypeId × Value → H) :
  ReturnsInHanded {} Tryz.checked os 4 .any (Rows.setsMergesSpec.pre6 enc Tryz.prog Tryz.f4 Rows.setsMergesRow.domain false) (Rows.setsMergesSpec.post enc Tryz.prog Tryz.f4 false true false false) := by
 refine returnsInHanded_of_change_sized (C := Tryz.checked) own started (by kernel_rfl) Tryz.func4
  (ChangeSpec.witness6 (enc := enc) (C := Tryz.checked) false ⟨#[], #[.agg #[.slice none 0 0, .slice none 0 0, .slice none 0 0], .agg #[.slice none 0 0, .slice none 0 0, .slice none 0 0]], []⟩ 8 (by kernel_rfl) (by kernel_rfl) (by kernel_rfl) (by kernel_rfl)) ?_
 intro W base args ds gs before hval0 hW hcnd hsz0 _
 have hsz : (DataW.weightsEach Tryz.prog (Tryz.f4.params.toList ++ Rows.setsMergesSpec.plain.varTypes Tryz.prog) (ds ++ gs)).all (· ≤ reachBytes) = true := hsz0
 have hval : ∀ (j : Nat) t v, Tryz.f4.params[j]? = some t → args[j]? = some v → Value.okWide Tryz.prog W .any base t v := @hval0
 have hW' := hW
 obtain ⟨p, q, hA0, hV, rfl, hfz, hnd⟩ := hW
 have hA : DataW.TrodAll enc Tryz.prog W 0 (fun _ => true) true Tryz.f4.params.toList args.toList ds p := hA0
 rw [Tryz.params4] at hA hval hsz
 obtain ⟨v0, vs0, d0, ds0, p0, q0, hargs, rfl, rfl, h0, r0⟩ := trodAll_cons hA
 obtain ⟨v1, vs1, d1, ds1, p1, q1, rfl, rfl, rfl, h1, r1⟩ := trodAll_cons r0
 obtain ⟨rfl, rfl, rfl⟩ := trodAll_nil r1
 obtain rfl : args = #[v0, v1] := by cases args; simp_all
 obtain ⟨rfl, rfl⟩ := trodVars_none hV
 have hw : (DataW.weightsEach Tryz.prog [25, 25] [d0, d1]).all (· ≤ reachBytes) = true := hsz
 simp only [DataW.weightsEach, all_append_iff] at hw
 obtain ⟨hw0, hw1, _⟩ := hw
 have k0 := h0
 have lt0 : ∀ x ∈ p0, x.block < W.heap.size := by obtain ⟨m, hm⟩ := k0; exact DataW.trod_lt m _ _ _ hm
 obtain ⟨fuel0, hf0⟩ := h0
 have k1 := h1
 have lt1 : ∀ x ∈ p1, x.block < W.heap.size := by obtain ⟨m, hm⟩ := k1; exact DataW.trod_lt m _ _ _ hm
 obtain ⟨fuel1, hf1⟩ := h1
 obtain ⟨A0, A1, A2, c0, c1, c2, f, rfl, ha0, sa0, wa0⟩ := argFt (hval 0 25 v0 rfl rfl) hf0 hw0
 obtain ⟨B0, B1, B2, e0, e1, e2, g, rfl, ha1, sa1, wa1⟩ := argFt (hval 1 25 v1 rfl rfl) hf1 hw1
 refine (merges_any f g A0 A1 A2 B0 B1 B2 c0 c1 c2 e0 e1 e2 W ha0 ha1 sa0 sa1 wa0 wa1).mono fun e W' ⟨he, bel⟩ => ?_
 subst he
 exact ⟨_, rfl, _, _, _, [], _, [], hW', trodAll_mk1 (shut_bool Tryz.underlying4 _), (trodAll_cons_mk (Below.trod laidOut (by kernel_rfl) (of_decide_eq_true (by kernel_rfl)) k0 bel lt0) (trodAll_cons_mk (Below.trod laidOut (by kernel_rfl) (of_decide_eq_true (by kernel_rfl)) k1 bel lt1) trodAll_mk0)), rfl, bel.frame _, fun h => by cases h⟩
theorem over : Rows.setsMergesRow.holds Tryz.pinned (OpenSpec.ofChange Rows.setsMergesSpec) :=
 OpenClaim.holds_of_wide 4 Tryz.f4 rfl rfl rfl rfl rfl rfl rfl ⟨rfl, rfl, rfl, rfl, rfl⟩ rfl rfl rfl rfl rfl (by kernel_rfl) Tryz.func4 (by kernel_rfl)
  (of_decide_eq_true (by kernel_rfl)) (by unfold Func.isWrapper; first | (rw [if_pos (by decide +kernel)]; kernel_rfl) | (rw [if_neg (by decide +kernel)]; exact ⟨rfl, rfl⟩))
  (fun os started H enc _ => lifted os started H enc)
theorem proved : Rows.SetsMergesSaid := over
end Go.Proofs.YtldlenjfpjihdaaGreat.setsMerges
namespace Go.Proofs.YtldlenjfpjihdaaGreat
theorem setsMerges_holds : Rows.SetsMergesSaid := setsMerges.proved
end Go.Proofs.YtldlenjfpjihdaaGreat
end
