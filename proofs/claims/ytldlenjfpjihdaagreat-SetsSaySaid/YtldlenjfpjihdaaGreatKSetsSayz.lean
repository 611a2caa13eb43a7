/- SetsSay: the law returns true at every input, and its arguments read as before. Conditions: as the row has them. -/
import Derived.Test.YtldlenjfpjihdaaGreatKSetsSay4
section
namespace Go.Proofs.YtldlenjfpjihdaaGreat.PS
open Go Go.RowKit Go.Proofs Go.Maps Go.WideMaps Go.Proofs.YtldlenjfpjihdaaGreatW.PrintWords Go.Proofs.YtldlenjfpjihdaaGreatW.PrintLast Go.Proofs.YtldlenjfpjihdaaGreatW.PrintMore
set_option linter.unusedVariables false
set_option linter.unusedSimpArgs false
set_option maxHeartbeats 16000000 in
set_option maxRecDepth 100000 in
theorem merge_any (f g : Ft) (A0 A1 A2 B0 B1 B2 : Option Addr) (a0 a1 a2 b0 b1 b2 : Nat) (w : World) (hf : FtR w A0 A1 A2 a0 a1 a2 f) (hg : FtR w B0 B1 B2 b0 b1 b2 g) (hfs : f.small) (hgs : g.small) (hfw : f.wfs) (hgw : g.wfs) :
    Calls Tryz.prog 14 #[fv A0 A1 A2 a0 a1 a2 f, fv B0 B1 B2 b0 b1 b2 g] w fun e w' => ∃ (h : Ft) (v' v0 v1 v2 : Value), e = .returned (.tuple #[v', .int .i64 (mergeC f g)]) ∧ MergeR f g h ∧ FtO w' w.heap.size v' h v0 v1 v2 ∧ Below w.heap.size w w' := by
  generalize hW : ((w.alloc (ftO A0 A1 A2 a0 a1 a2 f)).alloc (ftO B0 B1 B2 b0 b1 b2 g)).alloc zFt = w1
  have hB1 : Below w.heap.size w w1 := by rw [← hW]; exact below_alloc (below_alloc (below_alloc (Below.refl _ _) _) _) _
  have d0 : w1.heap[w.heap.size]? = some (ftO A0 A1 A2 a0 a1 a2 f) := by rw [← hW]; exact heap_old (heap_old (heap_new _ _))
  have d1 : w1.heap[w.heap.size + 1]? = some (ftO B0 B1 B2 b0 b1 b2 g) := by rw [← hW]; have := heap_new (w.alloc (ftO A0 A1 A2 a0 a1 a2 f)) (ftO B0 B1 B2 b0 b1 b2 g); rw [size_new] at this; exact heap_old this
  have d2 : w1.heap[w.heap.size + 1 + 1]? = some zFt := by rw [← hW]; have := heap_new ((w.alloc (ftO A0 A1 A2 a0 a1 a2 f)).alloc (ftO B0 B1 B2 b0 b1 b2 g)) zFt; rw [size_new, size_new] at this; exact this
  have HF0 := Aside0.mk (show ∀ W, Below w1.heap.size w1 W → Kd.C k37 W A0 f.ps.length f.ps from fun W h => Kd.C_below hf.h0 (below_step hB1 h))
  have HF1 := Aside0.mk (show ∀ W, Below w1.heap.size w1 W → Kd.C k46 W A1 f.ss.length f.ss from fun W h => Kd.C_below hf.h1 (below_step hB1 h))
  have HF2 := Aside0.mk (show ∀ W, Below w1.heap.size w1 W → Kd.C k37 W A2 f.ws.length f.ws from fun W h => Kd.C_below hf.h2 (below_step hB1 h))
  have HG0 := Aside0.mk (show ∀ W, Below w1.heap.size w1 W → Kd.C k37 W B0 g.ps.length g.ps from fun W h => Kd.C_below hg.h0 (below_step hB1 h))
  have HG1 := Aside0.mk (show ∀ W, Below w1.heap.size w1 W → Kd.C k46 W B1 g.ss.length g.ss from fun W h => Kd.C_below hg.h1 (below_step hB1 h))
  have HG2 := Aside0.mk (show ∀ W, Below w1.heap.size w1 W → Kd.C k37 W B2 g.ws.length g.ws from fun W h => Kd.C_below hg.h2 (below_step hB1 h))
  obtain ⟨ef, hef⟩ : ∃ e, e = checkS f := ⟨_, rfl⟩
  obtain ⟨eg, heg⟩ : ∃ e, e = checkS g := ⟨_, rfl⟩
  obtain ⟨lf, hlf⟩ : ∃ e, e = f.len := ⟨_, rfl⟩
  obtain ⟨lg, hlg⟩ : ∃ e, e = g.len := ⟨_, rfl⟩
  obtain ⟨er, her⟩ : ∃ e, e = if ef = 0 then eg else ef := ⟨_, rfl⟩
  have HKF := Aside0.mk (show ∀ W, Below w1.heap.size w1 W → Calls Tryz.prog 11 #[.agg #[.slice A0 f.ps.length a0, .slice A1 f.ss.length a1, .slice A2 f.ws.length a2]] W fun e w' => e = .returned (.int .i64 ef) ∧ Below W.heap.size W w' from fun W h => by rw [hef]; exact checkV ⟨A0, A1, A2, a0, a1, a2, rfl, hf.below (below_step hB1 h)⟩ hfs)
  have HKG := Aside0.mk (show ∀ W, Below w1.heap.size w1 W → Calls Tryz.prog 11 #[.agg #[.slice B0 g.ps.length b0, .slice B1 g.ss.length b1, .slice B2 g.ws.length b2]] W fun e w' => e = .returned (.int .i64 eg) ∧ Below W.heap.size W w' from fun W h => by rw [heg]; exact checkV ⟨B0, B1, B2, b0, b1, b2, rfl, hg.below (below_step hB1 h)⟩ hgs)
  have HSF := Aside0.mk (show ∀ W, Below w1.heap.size w1 W → Calls Tryz.prog 25 #[.agg #[.slice A0 f.ps.length a0, .slice A1 f.ss.length a1, .slice A2 f.ws.length a2]] W fun e w' => e = .returned (.int .i64 (lf : Int)) ∧ Below W.heap.size W w' from fun W h => by rw [hlf]; exact sizeV ⟨A0, A1, A2, a0, a1, a2, rfl, hf.below (below_step hB1 h)⟩ hfs)
  have HSG := Aside0.mk (show ∀ W, Below w1.heap.size w1 W → Calls Tryz.prog 25 #[.agg #[.slice B0 g.ps.length b0, .slice B1 g.ss.length b1, .slice B2 g.ws.length b2]] W fun e w' => e = .returned (.int .i64 (lg : Int)) ∧ Below W.heap.size W w' from fun W h => by rw [hlg]; exact sizeV ⟨B0, B1, B2, b0, b1, b2, rfl, hg.below (below_step hB1 h)⟩ hgs)
  have HOr := Aside0.mk (show ∀ (W : World) (bx : Nat), W.heap[bx]? = some (.cells #[.int .i64 ef, .int .i64 eg] 26 (0, 0)) → Calls Tryz.prog 31 #[.slice (some ⟨bx, 0, none⟩) 2 2] W fun e w' => e = .returned (.int .i64 er) ∧ Below W.heap.size W w' from fun W bx hx => by
    obtain ⟨k, hk⟩ := (orE_ev ef eg).ex
    rw [her]
    exact (api_Errno.calls k (some ⟨bx, 0, none⟩) 2 [ef, eg] _ W (C_errs (l := [ef, eg]) hx) (Nat.le_refl _) hk).mono fun e w' h => ⟨h.1, h.2.below⟩)
  have HCode := Aside0.mk (show mergeC f g = (if er = 0 then (if lf + lg > 65536 then 2 else 0) else er) by rw [her, hef, heg, hlf, hlg]; exact merge_err)
  have HOk := Aside0.mk (show er = 0 → lf ≤ 65536 ∧ lg ≤ 65536 from fun h => by
    rw [her] at h
    by_cases h0 : ef = 0
    · rw [if_pos h0] at h
      have l0 := check_len (hef.symm.trans h0)
      have l1 := check_len (heg.symm.trans h)
      rw [hlf, hlg]
      exact ⟨l0, l1⟩
    · rw [if_neg h0] at h; exact absurd h h0)
  have HLen := Aside0.mk (show lf = f.ps.length + f.ss.length + f.ws.length ∧ lg = g.ps.length + g.ss.length + g.ws.length from ⟨hlf, hlg⟩)
  have HWf := Aside0.mk (app_wfs hfw hgw)
  have HB1 := Aside0.mk hB1
  have D0 := Aside0.mk d0
  have D1 := Aside0.mk d1
  have D2 := Aside0.mk d2
  unfold ftO at hW D0 D1
  unfold zFt at hW D2
  have HW := Aside0.mk hW
  have HNO := Aside0.mk (show ∀ (W : World) (C0 C1 C2 : Option Addr) (c0 c1 c2 : Nat), lf + lg ≤ 65536 → Kd.R k37 37 W w1.heap.size (fun _ => True) (.slice C0 (f.ps.length + g.ps.length) c0) (f.ps ++ g.ps) → Kd.R k46 46 W w1.heap.size (fun _ => True) (.slice C1 (f.ss.length + g.ss.length) c1) (f.ss ++ g.ss) → Kd.R k37 37 W w1.heap.size (fun _ => True) (.slice C2 (f.ws.length + g.ws.length) c2) (f.ws ++ g.ws) →
    Calls Tryz.prog 20 #[.agg #[.slice C0 (f.ps.length + g.ps.length) c0, .slice C1 (f.ss.length + g.ss.length) c1, .slice C2 (f.ws.length + g.ws.length) c2]] W fun e w' => ∃ (h : Ft) (pl : List SPl) (v v0 v1 v2 : Value), e = .returned v ∧ NormOf (f.app g) h pl ∧ FtO w' W.heap.size v h v0 v1 v2 ∧ Below W.heap.size W w' from fun W C0 C1 C2 c0 c1 c2 hl h0 h1 h2 => by
      have hn := app_len (f := f) (g := g) (by rw [← hlf, ← hlg]; exact hl)
      have r0 := (Kd.R_reads' h0).2
      have r1 := (Kd.R_reads' h1).2
      have r2 := (Kd.R_reads' h2).2
      rw [← List.length_append] at r0 r1 r2 ⊢
      rw [← List.length_append, ← List.length_append]
      exact norm_any (f.app g) C0 C1 C2 c0 c1 c2 W ⟨r0.2, r0.1, r1.2, r1.1, r2.2, r2.1⟩ (app_wfs hfw hgw).1 (app_wfs hfw hgw).2 hn)
  clear hW hB1 d0 d1 d2 hf hg hfs hgs hfw hgw hef heg hlf hlg her
  have hl3 := HLen.out
  unfold fv
  generalize f.ps = fp at *
  generalize f.ss = fs at *
  generalize f.ws = fw at *
  generalize g.ps = gp at *
  generalize g.ss = gs at *
  generalize g.ws = gw at *
  generalize hm0 : fp.length = m0 at *
  generalize hm1 : fs.length = m1 at *
  generalize hm2 : fw.length = m2 at *
  generalize hn0 : gp.length = n0 at *
  generalize hn1 : gs.length = n1 at *
  generalize hn2 : gw.length = n2 at *
  have HM := Aside0.mk (show (m0 = fp.length ∧ m1 = fs.length ∧ m2 = fw.length) ∧ n0 = gp.length ∧ n1 = gs.length ∧ n2 = gw.length from ⟨⟨hm0.symm, hm1.symm, hm2.symm⟩, hn0.symm, hn1.symm, hn2.symm⟩)
  clear hm0 hm1 hm2 hn0 hn1 hn2 hl3
  have HSl := Aside0.mk (allSl (a := .slice none 0 0) (b := .slice none 0 0) (c := .slice none 0 0) rfl rfl rfl)
  go_enter Tryz.func14, Tryz.ntmps14
  --@A
  go_wp2_with fail
  rw [HW.out]
  clear HW
  have hbD := below_drew1 (Below.refl w1.heap.size w1)
  refine start_ (n := 7) (S := fun w' => w'.cell? ⟨w.heap.size, 0, none⟩ = some (.slice A0 m0 a0) ∧ w'.cell? ⟨w.heap.size, 1, none⟩ = some (.slice A1 m1 a1) ∧ w'.cell? ⟨w.heap.size, 2, none⟩ = some (.slice A2 m2 a2) ∧ w'.cell? ⟨w.heap.size + 1, 0, none⟩ = some (.slice B0 n0 b0) ∧ w'.cell? ⟨w.heap.size + 1, 1, none⟩ = some (.slice B1 n1 b1) ∧ w'.cell? ⟨w.heap.size + 1, 2, none⟩ = some (.slice B2 n2 b2)) (ds := []) #[false, false, false, false, false, false, false] (by kernel_rfl) rfl rfl (six hbD D0.out D1.out) (fun hHeld => ?_); refine with_tab tab14_1 (fun HT_ => ?_)
  generalize w1.drew = w2 at hbD hHeld ⊢
  have HC2 := Aside0.mk hbD
  clear hbD
  refine take_ (i := 0) (N := some 7) (v := ?_) (a' := ?_) #[true, false, false, false, false, false, false] rfl rfl (take_of HT_.out (by kernel_rfl)) (fun _ _ _ h => h) (Or.inl ⟨by rfl, ?_⟩) hHeld ?_ ?_
  rotate_left
  · rintro w' ⟨s0, s1, s2, s3, s4, s5⟩
    go_simp
    with_reducible rfl
  rotate_left
  · simp only [Act.put, List.setIfInBounds_toArray, List.set_cons_zero, List.set_cons_succ, i64_w, i32_w]
    rfl
  refine take_ (i := 2) (N := some 9) (v := ?_) (a' := ?_) #[true, false, true, false, false, false, false] rfl rfl (take_of HT_.out (by kernel_rfl)) (fun _ _ _ h => h) (Or.inl ⟨by rfl, ?_⟩) hHeld ?_ ?_
  rotate_left
  · rintro w' ⟨s0, s1, s2, s3, s4, s5⟩
    go_simp
    with_reducible rfl
  rotate_left
  · simp only [Act.put, List.setIfInBounds_toArray, List.set_cons_zero, List.set_cons_succ, i64_w, i32_w]
    rfl
  refine one_ (i := 1) (N := some 8) #[true, true, true, false, false, false, false] rfl rfl (one_of HT_.out (by kernel_rfl)) (by decide) (fun K hK => ?_)
  refine goes_ Tryz.func11 (by kernel_rfl) rfl #[.agg #[.slice A0 m0 a0, .slice A1 m1 a1, .slice A2 m2 a2]] (by rfl) rfl rfl (by (try simp only [List.map_toArray, List.map_cons, List.map_nil]); first | done | rfl) ?_
  refine (HKF.out w2 HC2.out).mono ?_
  rintro e w3 ⟨rfl, hb⟩
  refine ⟨_, rfl, ?_⟩
  have HC3 := Aside0.mk (below_step HC2.out hb)
  clear hb hHeld
  refine hK.out _ _ (six HC3.out D0.out D1.out) (fun hHeld => ?_)
  clear hK K
  refine norm_ (a' := ?_) ?_ ?_
  rotate_left
  · show Act.put _ (some 8) _ = _
    simp only [Act.put, List.setIfInBounds_toArray, List.set_cons_zero, List.set_cons_succ, i64_w, i32_w]
    rfl
  refine one_ (i := 3) (N := some 10) #[true, true, true, true, false, false, false] rfl rfl (one_of HT_.out (by kernel_rfl)) (by decide) (fun K hK => ?_)
  refine goes_ Tryz.func11 (by kernel_rfl) rfl #[.agg #[.slice B0 n0 b0, .slice B1 n1 b1, .slice B2 n2 b2]] (by rfl) rfl rfl (by (try simp only [List.map_toArray, List.map_cons, List.map_nil]); first | done | rfl) ?_
  refine (HKG.out w3 HC3.out).mono ?_
  rintro e w4 ⟨rfl, hb⟩
  refine ⟨_, rfl, ?_⟩
  have HC4 := Aside0.mk (below_step HC3.out hb)
  clear hb hHeld
  refine hK.out _ _ (six HC4.out D0.out D1.out) (fun hHeld => ?_)
  clear hK K
  refine norm_ (a' := ?_) ?_ ?_
  rotate_left
  · show Act.put _ (some 10) _ = _
    simp only [Act.put, List.setIfInBounds_toArray, List.set_cons_zero, List.set_cons_succ, i64_w, i32_w]
    rfl
  refine one_ (i := 4) (N := some 11) #[true, true, true, true, true, false, false] rfl rfl (one_of HT_.out (by kernel_rfl)) (by decide) (fun K hK => ?_)
  have hbA := below_alloc (Below.refl w4.heap.size w4) (.cells #[.int .i64 ef, .int .i64 eg] 26)
  have hNw := heap_new w4 (.cells #[.int .i64 ef, .int .i64 eg] 26)
  refine value_ (w1 := ?_) (v := ?_) (by rfl) rfl ?_ ?_
  rotate_left
  rotate_left
  · go_simp
    constructor
    · rfl
    · rfl
  show K _ (w4.alloc (.cells #[.int .i64 ef, .int .i64 eg] 26))
  have hb := hbA
  have HC5 := Aside0.mk (below_step HC4.out hb)
  generalize hbx : w4.heap.size = bx at hNw hb ⊢
  generalize w4.alloc (.cells #[.int .i64 ef, .int .i64 eg] 26) = w5 at hNw hb HC5 ⊢
  have HNw := Aside0.mk hNw
  clear hbA hbx hNw hb hHeld
  refine hK.out _ _ (six HC5.out D0.out D1.out) (fun hHeld => ?_)
  clear hK K
  refine norm_ (a' := ?_) ?_ ?_
  rotate_left
  · show Act.put _ (some 11) _ = _
    simp only [Act.put, List.setIfInBounds_toArray, List.set_cons_zero, List.set_cons_succ, i64_w, i32_w]
    rfl
  refine one_ (i := 5) (N := some 12) #[true, true, true, true, true, true, false] rfl rfl (one_of HT_.out (by kernel_rfl)) (by decide) (fun K hK => ?_)
  refine goes_ Tryz.func31 (by kernel_rfl) rfl #[.slice (some ⟨bx, 0, none⟩) 2 2] (by rfl) rfl rfl (by (try simp only [List.map_toArray, List.map_cons, List.map_nil]); first | done | rfl) ?_
  refine (HOr.out w5 bx HNw.out).mono ?_
  rintro e w6 ⟨rfl, hb⟩
  refine ⟨_, rfl, ?_⟩
  have HC6 := Aside0.mk (below_step HC5.out hb)
  clear hb hHeld
  refine hK.out _ _ (six HC6.out D0.out D1.out) (fun hHeld => ?_)
  clear hK K
  refine norm_ (a' := ?_) ?_ ?_
  rotate_left
  · show Act.put _ (some 12) _ = _
    simp only [Act.put, List.setIfInBounds_toArray, List.set_cons_zero, List.set_cons_succ, i64_w, i32_w]
    rfl
  refine pure_ (i := 6) (N := some 6) (v := ?_) (a' := ?_) #[true, true, true, true, true, true, true] rfl rfl (any_of HT_.out (by kernel_rfl)) (fun _ _ _ h => h) (Or.inl ⟨by rfl, ?_⟩) ?_ ?_
  rotate_left
  · intro w'
    go_simp
    with_reducible rfl
  rotate_left
  · simp only [Act.put, List.setIfInBounds_toArray, List.set_cons_zero, List.set_cons_succ, i64_w, i32_w]
    rfl
  refine done_ (done_of HT_.out (by kernel_rfl)) ?_
  clear hHeld HT_ HKF HKG HOr HNw
  --@B
  by_cases hc : er = 0
  · subst hc
    have hlo := HOk.out rfl
    have hlf : lf ≤ 65536 := hlo.1
    have hlg : lg ≤ 65536 := hlo.2
    have hcode := HCode.out
    rw [if_pos rfl] at hcode
    have HCo := Aside0.mk hcode
    clear hlo hcode HCode HOk
    go_wp2_with fail
    --@C
    have hbD := below_step HC6.out (below_drew1 (Below.refl w6.heap.size w6))
    refine start_ (n := 6) (S := fun w' => w'.cell? ⟨w.heap.size, 0, none⟩ = some (.slice A0 m0 a0) ∧ w'.cell? ⟨w.heap.size, 1, none⟩ = some (.slice A1 m1 a1) ∧ w'.cell? ⟨w.heap.size, 2, none⟩ = some (.slice A2 m2 a2) ∧ w'.cell? ⟨w.heap.size + 1, 0, none⟩ = some (.slice B0 n0 b0) ∧ w'.cell? ⟨w.heap.size + 1, 1, none⟩ = some (.slice B1 n1 b1) ∧ w'.cell? ⟨w.heap.size + 1, 2, none⟩ = some (.slice B2 n2 b2)) (ds := []) #[false, false, false, false, false, false] (by kernel_rfl) rfl rfl (six hbD D0.out D1.out) (fun hHeld => ?_); refine with_tab tab14_4 (fun HT_ => ?_)
    generalize w6.drew = w7 at hbD hHeld ⊢
    have HC7 := Aside0.mk hbD
    clear hbD
    refine take_ (i := 0) (N := some 17) (v := ?_) (a' := ?_) #[true, false, false, false, false, false] rfl rfl (take_of HT_.out (by kernel_rfl)) (fun _ _ _ h => h) (Or.inl ⟨by rfl, ?_⟩) hHeld ?_ ?_
    rotate_left
    · rintro w' ⟨s0, s1, s2, s3, s4, s5⟩
      go_simp
      with_reducible rfl
    rotate_left
    · simp only [Act.put, List.setIfInBounds_toArray, List.set_cons_zero, List.set_cons_succ, i64_w, i32_w]
      rfl
    refine take_ (i := 2) (N := some 19) (v := ?_) (a' := ?_) #[true, false, true, false, false, false] rfl rfl (take_of HT_.out (by kernel_rfl)) (fun _ _ _ h => h) (Or.inl ⟨by rfl, ?_⟩) hHeld ?_ ?_
    rotate_left
    · rintro w' ⟨s0, s1, s2, s3, s4, s5⟩
      go_simp
      with_reducible rfl
    rotate_left
    · simp only [Act.put, List.setIfInBounds_toArray, List.set_cons_zero, List.set_cons_succ, i64_w, i32_w]
      rfl
    refine one_ (i := 1) (N := some 18) #[true, true, true, false, false, false] rfl rfl (one_of HT_.out (by kernel_rfl)) (by decide) (fun K hK => ?_)
    refine goes_ Tryz.func25 (by kernel_rfl) rfl #[.agg #[.slice A0 m0 a0, .slice A1 m1 a1, .slice A2 m2 a2]] (by rfl) rfl rfl (by (try simp only [List.map_toArray, List.map_cons, List.map_nil]); first | done | rfl) ?_
    refine (HSF.out w7 HC7.out).mono ?_
    rintro e w8 ⟨rfl, hb⟩
    refine ⟨_, rfl, ?_⟩
    have HC8 := Aside0.mk (below_step HC7.out hb)
    clear hb hHeld
    refine hK.out _ _ (six HC8.out D0.out D1.out) (fun hHeld => ?_)
    clear hK K
    refine norm_ (a' := ?_) ?_ ?_
    rotate_left
    · show Act.put _ (some 18) _ = _
      simp only [Act.put, List.setIfInBounds_toArray, List.set_cons_zero, List.set_cons_succ, i64_w, i32_w]
      rfl
    refine one_ (i := 3) (N := some 20) #[true, true, true, true, false, false] rfl rfl (one_of HT_.out (by kernel_rfl)) (by decide) (fun K hK => ?_)
    refine goes_ Tryz.func25 (by kernel_rfl) rfl #[.agg #[.slice B0 n0 b0, .slice B1 n1 b1, .slice B2 n2 b2]] (by rfl) rfl rfl (by (try simp only [List.map_toArray, List.map_cons, List.map_nil]); first | done | rfl) ?_
    refine (HSG.out w8 HC8.out).mono ?_
    rintro e w9 ⟨rfl, hb⟩
    refine ⟨_, rfl, ?_⟩
    have HC9 := Aside0.mk (below_step HC8.out hb)
    clear hb hHeld
    refine hK.out _ _ (six HC9.out D0.out D1.out) (fun hHeld => ?_)
    clear hK K
    refine norm_ (a' := ?_) ?_ ?_
    rotate_left
    · show Act.put _ (some 20) _ = _
      simp only [Act.put, List.setIfInBounds_toArray, List.set_cons_zero, List.set_cons_succ, i64_w, i32_w]
      rfl
    refine pure_ (i := 4) (N := some 21) (v := ?_) (a' := ?_) #[true, true, true, true, true, false] rfl rfl (any_of HT_.out (by kernel_rfl)) (fun _ _ _ h => h) (Or.inl ⟨by rfl, ?_⟩) ?_ ?_
    rotate_left
    · intro w'
      go_simp
      with_reducible rfl
    rotate_left
    · simp only [Act.put, List.setIfInBounds_toArray, List.set_cons_zero, List.set_cons_succ, i64_w, i32_w]
      rfl
    refine pure_ (i := 5) (N := some 22) (v := ?_) (a' := ?_) #[true, true, true, true, true, true] rfl rfl (any_of HT_.out (by kernel_rfl)) (fun _ _ _ h => h) (Or.inl ⟨by rfl, ?_⟩) ?_ ?_
    rotate_left
    · intro w'
      go_simp
      with_reducible rfl
    rotate_left
    · simp only [Act.put, List.setIfInBounds_toArray, List.set_cons_zero, List.set_cons_succ, i64_w, i32_w]
      rfl
    refine done_ (done_of HT_.out (by kernel_rfl)) ?_
    clear hHeld HT_ HSF HSG
    rw [wrap64_id (n := (lf : Int) + (lg : Int)) (by omega) (by omega)]
    --@D
    by_cases hc : lf + lg > 65536
    · have hcz : (65536 : Int) < (lf : Int) + (lg : Int) := by omega
      have hcode := HCo.out
      rw [if_pos hc] at hcode
      clear HCo
      have HCo := Aside0.mk hcode
      clear hcode
      have HX9 := Aside0.mk ((HC9.out.block _ (lt_of D2.out)).trans D2.out)
      have j0 : w9.cell? ⟨w.heap.size + 1 + 1, 0, none⟩ = some (.slice none 0 0) := cell_of HX9.out 0
      have j1 : w9.cell? ⟨w.heap.size + 1 + 1, 1, none⟩ = some (.slice none 0 0) := cell_of HX9.out 1
      have j2 : w9.cell? ⟨w.heap.size + 1 + 1, 2, none⟩ = some (.slice none 0 0) := cell_of HX9.out 2
      have k0 : w9.frozen? ⟨w.heap.size + 1 + 1, 0, none⟩ = false := frozen_of HX9.out 0
      have k1 : w9.frozen? ⟨w.heap.size + 1 + 1, 1, none⟩ = false := frozen_of HX9.out 1
      have k2 : w9.frozen? ⟨w.heap.size + 1 + 1, 2, none⟩ = false := frozen_of HX9.out 2
      have HB9 := Aside0.mk (below_step HB1.out HC9.out)
      go_wp2
      refine bodyPost_ret (results_ct rfl _ _ (w.heap.size + 1 + 1) 25 #[.slice none 0 0, .slice none 0 0, .slice none 0 0] (0, 0) _ rfl (setCell_heap (setCell_heap (setCell_heap HX9.out _) _) _) Tryz.underlying25 rfl (by kernel_rfl)) rfl ?_
      have hb : Below w.heap.size w (((w9.setCell ⟨w.heap.size + 1 + 1, 0, none⟩ (.slice none 0 0)).setCell ⟨w.heap.size + 1 + 1, 1, none⟩ (.slice none 0 0)).setCell ⟨w.heap.size + 1 + 1, 2, none⟩ (.slice none 0 0)) := ((HB9.out.setCell (p := ⟨w.heap.size + 1 + 1, 0, none⟩) (by show w.heap.size ≤ w.heap.size + 1 + 1; omega) _).setCell (p := ⟨w.heap.size + 1 + 1, 1, none⟩) (by show w.heap.size ≤ w.heap.size + 1 + 1; omega) _).setCell (p := ⟨w.heap.size + 1 + 1, 2, none⟩) (by show w.heap.size ≤ w.heap.size + 1 + 1; omega) _
      exact ⟨Ft.nil, _, _, _, _, (by rw [HCo.out]; rfl), .inr ⟨by rw [HCo.out]; decide, rfl⟩, FtO.nil _ _, hb⟩
    · have hcz : ¬ (65536 : Int) < (lf : Int) + (lg : Int) := by omega
      have hcode := HCo.out
      rw [if_neg hc] at hcode
      clear HCo
      have HCo := Aside0.mk hcode
      have HCl := Aside0.mk (Nat.le_of_not_lt hc)
      clear hcode hc
      go_wp2_with fail
      --@E
      refine merge_reg (t2 := undef) (t3 := undef) (t4 := undef) HM.out HLen.out HCl.out HNO.out HF0.out HF1.out HF2.out HG0.out HG1.out HG2.out D0.out D1.out D2.out (HC9.out) (fun _ _ d _ _ h => by cases d <;> exact h) (fun w10 h pl C0 C1 C2 c0 c1 c2 x24 x25 x26 x27 x28 x29 x30 x31 x32 x33 x34 x35 x36 x37 x38 x39 x40 x41 x42 x43 hno ho hc hx3 => ?_)
      have HO := Aside0.mk ho
      have HNo := Aside0.mk hno
      have HX := Aside0.mk hx3
      have HC := Aside0.mk hc
      clear ho hno hx3 hc
      --@G
      go_wp2
      refine bodyPost_ret (results_ct rfl _ _ (w.heap.size + 1 + 1) 25 #[.slice C0 h.ps.length c0, .slice C1 h.ss.length c1, .slice C2 h.ws.length c2] (0, 0) _ rfl HX.out Tryz.underlying25 rfl (by kernel_rfl)) rfl ?_
      exact ⟨h, _, _, _, _, (by rw [HCo.out]; rfl), .inl ⟨HCo.out, pl, HNo.out⟩, HO.out.lower (HB1.out.size), Below.trans HB1.out HC.out⟩
  · have hcode := HCode.out
    rw [if_neg hc] at hcode
    have hcb : (er == 0) = false := by simpa using hc
    have HCo := Aside0.mk hcode
    clear hcode
    have HX6 := Aside0.mk ((HC6.out.block _ (lt_of D2.out)).trans D2.out)
    have j0 : w6.cell? ⟨w.heap.size + 1 + 1, 0, none⟩ = some (.slice none 0 0) := cell_of HX6.out 0
    have j1 : w6.cell? ⟨w.heap.size + 1 + 1, 1, none⟩ = some (.slice none 0 0) := cell_of HX6.out 1
    have j2 : w6.cell? ⟨w.heap.size + 1 + 1, 2, none⟩ = some (.slice none 0 0) := cell_of HX6.out 2
    have k0 : w6.frozen? ⟨w.heap.size + 1 + 1, 0, none⟩ = false := frozen_of HX6.out 0
    have k1 : w6.frozen? ⟨w.heap.size + 1 + 1, 1, none⟩ = false := frozen_of HX6.out 1
    have k2 : w6.frozen? ⟨w.heap.size + 1 + 1, 2, none⟩ = false := frozen_of HX6.out 2
    have HB6 := Aside0.mk (below_step HB1.out HC6.out)
    go_wp2
    refine bodyPost_ret (results_ct rfl _ _ (w.heap.size + 1 + 1) 25 #[.slice none 0 0, .slice none 0 0, .slice none 0 0] (0, 0) _ rfl (setCell_heap (setCell_heap (setCell_heap HX6.out _) _) _) Tryz.underlying25 rfl (by kernel_rfl)) rfl ?_
    have hb : Below w.heap.size w (((w6.setCell ⟨w.heap.size + 1 + 1, 0, none⟩ (.slice none 0 0)).setCell ⟨w.heap.size + 1 + 1, 1, none⟩ (.slice none 0 0)).setCell ⟨w.heap.size + 1 + 1, 2, none⟩ (.slice none 0 0)) := ((HB6.out.setCell (p := ⟨w.heap.size + 1 + 1, 0, none⟩) (by show w.heap.size ≤ w.heap.size + 1 + 1; omega) _).setCell (p := ⟨w.heap.size + 1 + 1, 1, none⟩) (by show w.heap.size ≤ w.heap.size + 1 + 1; omega) _).setCell (p := ⟨w.heap.size + 1 + 1, 2, none⟩) (by show w.heap.size ≤ w.heap.size + 1 + 1; omega) _
    exact ⟨Ft.nil, _, _, _, _, (by rw [HCo.out]; rfl), .inr ⟨by rw [HCo.out]; exact hc, rfl⟩, FtO.nil _ _, hb⟩
/-- Merge of both, at feet as_ values. -/
theorem mergeV {w : World} {v u : Value} {f g : Ft} (hf : FtV w v f) (hg : FtV w u g) (hfs : f.small) (hgs : g.small) (hfw : f.wfs) (hgw : g.wfs) : Calls Tryz.prog 14 #[v, u] w fun e w' => ∃ (h : Ft) (v' v0 v1 v2 : Value), e = .returned (.tuple #[v', .int .i64 (mergeC f g)]) ∧ MergeR f g h ∧ FtO w' w.heap.size v' h v0 v1 v2 ∧ Below w.heap.size w w' := by
  obtain ⟨A0, A1, A2, a0, a1, a2, rfl, hf⟩ := hf
  obtain ⟨B0, B1, B2, b0, b1, b2, rfl, hg⟩ := hg
  exact merge_any f g A0 A1 A2 B0 B1 B2 a0 a1 a2 b0 b1 b2 w hf hg hfs hgs hfw hgw
def T5_10 : Bool × List (List Nat × List Nat) := (true, [([], []), ([], []), ([1], [1]), ([], []), ([2, 3], [2, 3]), ([4], [4]), ([0, 5], [0, 5]), ([], []), ([], []), ([8], [8]), ([], []), ([9, 10], [9, 10]), ([11], [11]), ([7, 12, 6], [7, 12]), ([6, 13], [6, 13])])
theorem tab5_10 : rtab .any (opsOf Tryz.f5 10) = T5_10 := by kernel_rfl
/-- A foot that is told, its slices spelled. -/
def FtL (w : World) (v : Value) (f : Ft) : Prop := ∃ C0 C1 C2 n0 n1 n2 c0 c1 c2, v = .agg #[.slice C0 n0 c0, .slice C1 n1 c1, .slice C2 n2 c2] ∧ FtV w v f
theorem FtV.L {w : World} {v : Value} {f : Ft} (h : FtV w v f) : FtL w v f := by
  obtain ⟨C0, C1, C2, c0, c1, c2, e, _⟩ := id h
  exact ⟨C0, C1, C2, _, _, _, c0, c1, c2, e, h⟩
theorem normL {w : World} {v : Value} {f : Ft} (hf : FtV w v f) (hs : f.small) (hw : f.wfs) : Calls Tryz.prog 7 #[v] w fun e w' => ∃ (g : Ft) (v' : Value), e = .returned (.tuple #[v', .int .i64 (checkS f)]) ∧ NormR f g ∧ FtL w' v' g ∧ Below w.heap.size w w' :=
  (normV hf hs hw).mono fun e w' ⟨g, v', v0, v1, v2, e1, h1, h2, h3⟩ => ⟨g, v', e1, h1, h2.V.L, h3⟩
theorem mergeL {w : World} {v u : Value} {f g : Ft} (hf : FtV w v f) (hg : FtV w u g) (hfs : f.small) (hgs : g.small) (hfw : f.wfs) (hgw : g.wfs) : Calls Tryz.prog 14 #[v, u] w fun e w' => ∃ (h : Ft) (v' : Value), e = .returned (.tuple #[v', .int .i64 (mergeC f g)]) ∧ MergeR f g h ∧ FtL w' v' h ∧ Below w.heap.size w w' :=
  (mergeV hf hg hfs hgs hfw hgw).mono fun e w' ⟨g, v', v0, v1, v2, e1, h1, h2, h3⟩ => ⟨g, v', e1, h1, h2.V.L, h3⟩
theorem clash_eqv {f f' g : Ft} (h : Eqv f f') : clashSS f g = clashSS f' g := by
  unfold clashSS
  have : readsS f.ps f.ss = readsS f'.ps f'.ss := funext fun x => h.reads x
  rw [this]
theorem gws_at {w : World} {B0 B1 B2 : Option Addr} {n0 n1 n2 b0 b1 b2 : Nat} {g : Ft} (h : FtV w (.agg #[.slice B0 n0 b0, .slice B1 n1 b1, .slice B2 n2 b2]) g) (hn : g.ws.length = n2) : Kd.C k37 w B2 n2 g.ws := by
  obtain ⟨C0, C1, C2, c0, c1, c2, e, hr⟩ := h
  unfold fv at e
  simp only [Value.agg.injEq, Array.mk.injEq, List.cons.injEq, Value.slice.injEq, and_true] at e
  obtain ⟨_, _, rfl, rfl, rfl⟩ := e
  exact hr.h2
set_option maxHeartbeats 16000000 in
set_option maxRecDepth 100000 in
theorem say_any (f g i : Ft) (A0 A1 A2 B0 B1 B2 D0 D1 D2 : Option Addr) (a0 a1 a2 b0 b1 b2 d0 d1 d2 : Nat) (w : World) (hf : FtR w A0 A1 A2 a0 a1 a2 f) (hg : FtR w B0 B1 B2 b0 b1 b2 g) (hi : FtR w D0 D1 D2 d0 d1 d2 i) (hfs : f.small) (hgs : g.small) (his : i.small) (hfw : f.wfs) (hgw : g.wfs) (hiw : i.wfs) :
    Calls Tryz.prog 5 #[.agg #[.slice A0 f.ps.length a0, .slice A1 f.ss.length a1, .slice A2 f.ws.length a2], .agg #[.slice B0 g.ps.length b0, .slice B1 g.ss.length b1, .slice B2 g.ws.length b2], .agg #[.slice D0 i.ps.length d0, .slice D1 i.ss.length d1, .slice D2 i.ws.length d2]] w fun e w' => e = .returned (.bool true) ∧ Below w.heap.size w w' := by
  generalize hW : ((w.alloc (ftO A0 A1 A2 a0 a1 a2 f)).alloc (ftO B0 B1 B2 b0 b1 b2 g)).alloc (ftO D0 D1 D2 d0 d1 d2 i) = w1
  have hB1 : Below w.heap.size w w1 := by rw [← hW]; exact below_alloc (below_alloc (below_alloc (Below.refl _ _) _) _) _
  have e0 : w1.heap[w.heap.size]? = some (ftO A0 A1 A2 a0 a1 a2 f) := by rw [← hW]; exact heap_old (heap_old (heap_new _ _))
  have e1 : w1.heap[w.heap.size + 1]? = some (ftO B0 B1 B2 b0 b1 b2 g) := by rw [← hW]; have := heap_new (w.alloc (ftO A0 A1 A2 a0 a1 a2 f)) (ftO B0 B1 B2 b0 b1 b2 g); rw [size_new] at this; exact heap_old this
  have e2 : w1.heap[w.heap.size + 1 + 1]? = some (ftO D0 D1 D2 d0 d1 d2 i) := by rw [← hW]; have := heap_new ((w.alloc (ftO A0 A1 A2 a0 a1 a2 f)).alloc (ftO B0 B1 B2 b0 b1 b2 g)) (ftO D0 D1 D2 d0 d1 d2 i); rw [size_new, size_new] at this; exact this
  have Vf := Aside0.mk (show FtV w1 (.agg #[.slice A0 f.ps.length a0, .slice A1 f.ss.length a1, .slice A2 f.ws.length a2]) f from ⟨_, _, _, _, _, _, rfl, hf.below hB1⟩)
  have Vg := Aside0.mk (show FtV w1 (.agg #[.slice B0 g.ps.length b0, .slice B1 g.ss.length b1, .slice B2 g.ws.length b2]) g from ⟨_, _, _, _, _, _, rfl, hg.below hB1⟩)
  have Vi := Aside0.mk (show FtV w1 (.agg #[.slice D0 i.ps.length d0, .slice D1 i.ss.length d1, .slice D2 i.ws.length d2]) i from ⟨_, _, _, _, _, _, rfl, hi.below hB1⟩)
  have HGw := Aside0.mk (show Kd.C k37 w1 B2 g.ws.length g.ws from (hg.below hB1).h2)
  have HC1 := Aside0.mk hB1
  have Ef := Aside0.mk e0
  have Eg := Aside0.mk e1
  have Ei := Aside0.mk e2
  have HFs := Aside0.mk hfs
  have HGs := Aside0.mk hgs
  have HIs := Aside0.mk his
  have HFw := Aside0.mk hfw
  have HGw' := Aside0.mk hgw
  have HIw := Aside0.mk hiw
  unfold ftO at hW Ef Eg Ei
  have HW := Aside0.mk hW
  have hgl : g.ws.length < 4398046511104 := hgs.n.2.2
  clear hW hB1 e0 e1 e2 hf hg hi hfs hgs his hfw hgw hiw
  generalize f.ps.length = m0 at *
  generalize f.ss.length = m1 at *
  generalize f.ws.length = m2 at *
  generalize g.ps.length = n0 at *
  generalize g.ss.length = n1 at *
  generalize hn2 : g.ws.length = n2 at *
  generalize i.ps.length = l0 at *
  generalize i.ss.length = l1 at *
  generalize i.ws.length = l2 at *
  have HN2 := Aside0.mk hn2
  clear hn2
  obtain ⟨cf, hcf⟩ : ∃ c, c = checkS f := ⟨_, rfl⟩
  have HCf := Aside0.mk hcf
  clear hcf
  go_enter Tryz.func5, Tryz.ntmps5
  --@A
  go_wp2_with fail
  rw [HW.out]
  clear HW
  refine (copyV Vf.out HFs.out).mono ?_
  rintro e w2 ⟨v2, rfl, hv, hb⟩
  have Vc := Aside0.mk hv
  clear hv
  have Ef := Aside0.mk ((hb.block _ (lt_of Ef.out)).trans Ef.out)
  have Eg := Aside0.mk ((hb.block _ (lt_of Eg.out)).trans Eg.out)
  have Ei := Aside0.mk ((hb.block _ (lt_of Ei.out)).trans Ei.out)
  have Vf := Aside0.mk (Vf.out.below hb)
  have Vg := Aside0.mk (Vg.out.below hb)
  have Vi := Aside0.mk (Vi.out.below hb)
  have HC2 := Aside0.mk (below_step HC1.out hb)
  clear hb
  go_wp2_with fail
  refine (normL Vc.out HFs.out HFw.out).mono ?_
  rintro e w3 ⟨h, v3, rfl, hn, hl, hb⟩
  rw [← HCf.out]
  clear Vc
  obtain ⟨N0, N1, N2, nN0, nN1, nN2, cN0, cN1, cN2, rfl, hv⟩ := hl
  have HN := Aside0.mk hn
  have VN := Aside0.mk hv
  clear hn hv
  have Ef := Aside0.mk ((hb.block _ (lt_of Ef.out)).trans Ef.out)
  have Eg := Aside0.mk ((hb.block _ (lt_of Eg.out)).trans Eg.out)
  have Ei := Aside0.mk ((hb.block _ (lt_of Ei.out)).trans Ei.out)
  have Vf := Aside0.mk (Vf.out.below hb)
  have Vg := Aside0.mk (Vg.out.below hb)
  have Vi := Aside0.mk (Vi.out.below hb)
  have HC3 := Aside0.mk (below_step HC2.out hb)
  clear hb
  generalize hW : w3.alloc (.cells #[.slice N0 nN0 cN0, .slice N1 nN1 cN1, .slice N2 nN2 cN2] 25) = w4
  have hb : Below w3.heap.size w3 w4 := by rw [← hW]; exact below_alloc (Below.refl _ _) _
  have EN := Aside0.mk (show w4.heap[w3.heap.size]? = some (.cells #[.slice N0 nN0 cN0, .slice N1 nN1 cN1, .slice N2 nN2 cN2] 25) by rw [← hW]; exact heap_new _ _)
  have Ef := Aside0.mk ((hb.block _ (lt_of Ef.out)).trans Ef.out)
  have Eg := Aside0.mk ((hb.block _ (lt_of Eg.out)).trans Eg.out)
  have Ei := Aside0.mk ((hb.block _ (lt_of Ei.out)).trans Ei.out)
  have Vf := Aside0.mk (Vf.out.below hb)
  have Vg := Aside0.mk (Vg.out.below hb)
  have Vi := Aside0.mk (Vi.out.below hb)
  have VN := Aside0.mk (VN.out.below hb)
  have HC4 := Aside0.mk (below_step HC3.out hb)
  clear hb
  have pf0 : (w3.alloc (.cells #[.slice N0 nN0 cN0, .slice N1 nN1 cN1, .slice N2 nN2 cN2] 25)).cell? ⟨w.heap.size, 0, none⟩ = some (.slice A0 m0 a0) := by rw [hW]; exact cell_of Ef.out 0
  have pf1 : (w3.alloc (.cells #[.slice N0 nN0 cN0, .slice N1 nN1 cN1, .slice N2 nN2 cN2] 25)).cell? ⟨w.heap.size, 1, none⟩ = some (.slice A1 m1 a1) := by rw [hW]; exact cell_of Ef.out 1
  have pf2 : (w3.alloc (.cells #[.slice N0 nN0 cN0, .slice N1 nN1 cN1, .slice N2 nN2 cN2] 25)).cell? ⟨w.heap.size, 2, none⟩ = some (.slice A2 m2 a2) := by rw [hW]; exact cell_of Ef.out 2
  have HW := Aside0.mk hW
  clear hW
  by_cases hc : cf = 0
  · have h0 : checkS f = 0 := HCf.out.symm.trans hc
    obtain ⟨pl, hno⟩ : ∃ pl, NormOf f h pl := by
      rcases HN.out with ⟨_, h⟩ | ⟨h1, _⟩
      · exact h
      · exact absurd h0 h1
    have HNo := Aside0.mk hno
    have HEq := Aside0.mk hno.eqv
    have HSm := Aside0.mk (hno.small (check_len h0))
    have HNw := Aside0.mk (hno.wfs HFw.out)
    have HCk := Aside0.mk (hno.check h0)
    clear hno h0 HCf
    subst hc
    --@B
    go_wp2_with fail
    rw [HW.out]
    clear HW pf0 pf1 pf2
    refine (normL VN.out HSm.out HNw.out).mono ?_
    rintro e w5 ⟨h', v5, rfl, hn, hl, hb⟩
    rw [HCk.out]
    obtain rfl : h' = h := by
      rcases hn with ⟨_, pl', h2⟩ | ⟨h1, _⟩
      · exact HNo.out.idem h2
      · exact absurd HCk.out h1
    obtain ⟨M0, M1, M2, nM0, nM1, nM2, cM0, cM1, cM2, rfl, hv⟩ := hl
    have VM := Aside0.mk hv
    clear hn hv
    have Ef := Aside0.mk ((hb.block _ (lt_of Ef.out)).trans Ef.out)
    have Eg := Aside0.mk ((hb.block _ (lt_of Eg.out)).trans Eg.out)
    have Ei := Aside0.mk ((hb.block _ (lt_of Ei.out)).trans Ei.out)
    have EN := Aside0.mk ((hb.block _ (lt_of EN.out)).trans EN.out)
    have Vf := Aside0.mk (Vf.out.below hb)
    have Vg := Aside0.mk (Vg.out.below hb)
    have Vi := Aside0.mk (Vi.out.below hb)
    have VN := Aside0.mk (VN.out.below hb)
    have HC5 := Aside0.mk (below_step HC4.out hb)
    clear hb
    generalize hW : w5.alloc (.cells #[.slice M0 nM0 cM0, .slice M1 nM1 cM1, .slice M2 nM2 cM2] 25) = w6
    have hb : Below w5.heap.size w5 w6 := by rw [← hW]; exact below_alloc (Below.refl _ _) _
    have EM := Aside0.mk (show w6.heap[w5.heap.size]? = some (.cells #[.slice M0 nM0 cM0, .slice M1 nM1 cM1, .slice M2 nM2 cM2] 25) by rw [← hW]; exact heap_new _ _)
    have Ef := Aside0.mk ((hb.block _ (lt_of Ef.out)).trans Ef.out)
    have Eg := Aside0.mk ((hb.block _ (lt_of Eg.out)).trans Eg.out)
    have Ei := Aside0.mk ((hb.block _ (lt_of Ei.out)).trans Ei.out)
    have EN := Aside0.mk ((hb.block _ (lt_of EN.out)).trans EN.out)
    have Vf := Aside0.mk (Vf.out.below hb)
    have Vg := Aside0.mk (Vg.out.below hb)
    have Vi := Aside0.mk (Vi.out.below hb)
    have VN := Aside0.mk (VN.out.below hb)
    have VM := Aside0.mk (VM.out.below hb)
    have HC6 := Aside0.mk (below_step HC5.out hb)
    clear hb
    have pN0 : (w5.alloc (.cells #[.slice M0 nM0 cM0, .slice M1 nM1 cM1, .slice M2 nM2 cM2] 25)).cell? ⟨w3.heap.size, 0, none⟩ = some (.slice N0 nN0 cN0) := by rw [hW]; exact cell_of EN.out 0
    have pN1 : (w5.alloc (.cells #[.slice M0 nM0 cM0, .slice M1 nM1 cM1, .slice M2 nM2 cM2] 25)).cell? ⟨w3.heap.size, 1, none⟩ = some (.slice N1 nN1 cN1) := by rw [hW]; exact cell_of EN.out 1
    have pN2 : (w5.alloc (.cells #[.slice M0 nM0 cM0, .slice M1 nM1 cM1, .slice M2 nM2 cM2] 25)).cell? ⟨w3.heap.size, 2, none⟩ = some (.slice N2 nN2 cN2) := by rw [hW]; exact cell_of EN.out 2
    have HW := Aside0.mk hW
    clear hW
    --@C
    go_wp2_with fail
    rw [HW.out]
    clear HW pN0 pN1 pN2
    refine (sameV VM.out VN.out HSm.out).mono ?_
    rintro e w7 ⟨rfl, hb⟩
    have Ef := Aside0.mk ((hb.block _ (lt_of Ef.out)).trans Ef.out)
    have Eg := Aside0.mk ((hb.block _ (lt_of Eg.out)).trans Eg.out)
    have Ei := Aside0.mk ((hb.block _ (lt_of Ei.out)).trans Ei.out)
    have EN := Aside0.mk ((hb.block _ (lt_of EN.out)).trans EN.out)
    have EM := Aside0.mk ((hb.block _ (lt_of EM.out)).trans EM.out)
    have Vf := Aside0.mk (Vf.out.below hb)
    have Vg := Aside0.mk (Vg.out.below hb)
    have Vi := Aside0.mk (Vi.out.below hb)
    have VN := Aside0.mk (VN.out.below hb)
    have VM := Aside0.mk (VM.out.below hb)
    have HC7 := Aside0.mk (below_step HC6.out hb)
    clear hb
    --@D
    go_wp2_with fail
    go_loopg [10] n2 (fun gg s10 wr => ∃ k : Nat, s10 = .int .i64 k ∧ k ≤ n2 ∧ Aside0 (n2 - k ≤ gg) ∧ Aside0 (Below w7.heap.size w7 wr))
    case atStart => exact ⟨0, rfl, Nat.zero_le _, ⟨Nat.le_refl _⟩, ⟨Below.refl _ _⟩⟩
    case round =>
      obtain ⟨w8, hwq⟩ : ∃ x, x = wr := ⟨_, rfl⟩
      subst hwq
      obtain ⟨k, rfl, hk, HM, HB⟩ := hrel
      have hb := HB.out
      have Ef := Aside0.mk ((hb.block _ (lt_of Ef.out)).trans Ef.out)
      have Eg := Aside0.mk ((hb.block _ (lt_of Eg.out)).trans Eg.out)
      have Ei := Aside0.mk ((hb.block _ (lt_of Ei.out)).trans Ei.out)
      have EN := Aside0.mk ((hb.block _ (lt_of EN.out)).trans EN.out)
      have Vf := Aside0.mk (Vf.out.below hb)
      have Vg := Aside0.mk (Vg.out.below hb)
      have Vi := Aside0.mk (Vi.out.below hb)
      have VN := Aside0.mk (VN.out.below hb)
      have HC8 := Aside0.mk (below_step HC7.out hb)
      clear hb
      have pf0 : w8.cell? ⟨w.heap.size, 0, none⟩ = some (.slice A0 m0 a0) := cell_of Ef.out 0
      have pf1 : w8.cell? ⟨w.heap.size, 1, none⟩ = some (.slice A1 m1 a1) := cell_of Ef.out 1
      have pf2 : w8.cell? ⟨w.heap.size, 2, none⟩ = some (.slice A2 m2 a2) := cell_of Ef.out 2
      have pg0 : w8.cell? ⟨w.heap.size + 1, 0, none⟩ = some (.slice B0 n0 b0) := cell_of Eg.out 0
      have pg1 : w8.cell? ⟨w.heap.size + 1, 1, none⟩ = some (.slice B1 n1 b1) := cell_of Eg.out 1
      have pg2 : w8.cell? ⟨w.heap.size + 1, 2, none⟩ = some (.slice B2 n2 b2) := cell_of Eg.out 2
      have pN0 : w8.cell? ⟨w3.heap.size, 0, none⟩ = some (.slice N0 nN0 cN0) := cell_of EN.out 0
      have pN1 : w8.cell? ⟨w3.heap.size, 1, none⟩ = some (.slice N1 nN1 cN1) := cell_of EN.out 1
      have pN2 : w8.cell? ⟨w3.heap.size, 2, none⟩ = some (.slice N2 nN2 cN2) := cell_of EN.out 2
      by_cases hlt : k < n2
      · have hltz : (k : Int) < (n2 : Int) := by omega
        --@E
        obtain ⟨ad, ea, x0, x1, x2⟩ := at_T37 (gws_at Vg.out HN2.out) (k : Int) (by omega) hltz
        subst ea
        obtain ⟨y, hy⟩ : ∃ y, g.ws[k]? = some y := ⟨_, List.getElem?_eq_getElem (by have := HN2.out; omega)⟩
        rw [rd37 hy] at x0 x1 x2
        simp only [Int.toNat_natCast] at x0 x1 x2
        clear hy
        --@F
        go_wp2_with fail
        --@G
        have hbD := below_drew1 (Below.refl w8.heap.size w8)
        refine start_ (n := 15) (S := fun w' => Below w8.heap.size w8 w') (ds := []) #[false, false, false, false, false, false, false, false, false, false, false, false, false, false, false] (by kernel_rfl) rfl rfl hbD (fun hHeld => ?_); refine with_tab tab5_10 (fun HT_ => ?_)
        generalize w8.drew = wd at hbD hHeld ⊢
        refine pure_ (i := 1) (N := some 59) (v := ?_) (a' := ?_) #[false, true, false, false, false, false, false, false, false, false, false, false, false, false, false] rfl rfl (any_of HT_.out (by kernel_rfl)) (fun _ _ _ h => h) (Or.inl ⟨by rfl, ?_⟩) ?_ ?_
        rotate_left
        · intro w'
          go_simp
          with_reducible rfl
        rotate_left
        · simp only [Act.put, List.setIfInBounds_toArray, List.set_cons_zero, List.set_cons_succ, i64_w, i32_w]
          rfl
        refine pure_ (i := 3) (N := some 61) (v := ?_) (a' := ?_) #[false, true, false, true, false, false, false, false, false, false, false, false, false, false, false] rfl rfl (any_of HT_.out (by kernel_rfl)) (fun _ _ _ h => h) (Or.inl ⟨by rfl, ?_⟩) ?_ ?_
        rotate_left
        · intro w'
          go_simp
          with_reducible rfl
        rotate_left
        · simp only [Act.put, List.setIfInBounds_toArray, List.set_cons_zero, List.set_cons_succ, i64_w, i32_w]
          rfl
        refine pure_ (i := 8) (N := some 66) (v := ?_) (a' := ?_) #[false, true, false, true, false, false, false, false, true, false, false, false, false, false, false] rfl rfl (any_of HT_.out (by kernel_rfl)) (fun _ _ _ h => h) (Or.inl ⟨by rfl, ?_⟩) ?_ ?_
        rotate_left
        · intro w'
          go_simp
          with_reducible rfl
        rotate_left
        · simp only [Act.put, List.setIfInBounds_toArray, List.set_cons_zero, List.set_cons_succ, i64_w, i32_w]
          rfl
        refine pure_ (i := 10) (N := some 68) (v := ?_) (a' := ?_) #[false, true, false, true, false, false, false, false, true, false, true, false, false, false, false] rfl rfl (any_of HT_.out (by kernel_rfl)) (fun _ _ _ h => h) (Or.inl ⟨by rfl, ?_⟩) ?_ ?_
        rotate_left
        · intro w'
          go_simp
          with_reducible rfl
        rotate_left
        · simp only [Act.put, List.setIfInBounds_toArray, List.set_cons_zero, List.set_cons_succ, i64_w, i32_w]
          rfl
        refine take_ (i := 0) (N := some 58) (v := ?_) (a' := ?_) #[true, true, false, true, false, false, false, false, true, false, true, false, false, false, false] rfl rfl (take_of HT_.out (by kernel_rfl)) (fun _ _ _ h => h) (Or.inl ⟨by rfl, ?_⟩) hHeld ?_ ?_
        rotate_left
        · intro w' hs
          have z0 := fun j v (h : w8.cell? j = some v) => (hs.cell (World.block_lt_of_cell? _ _ h)).trans h
          have ypf0 := z0 _ _ pf0
          have ypf1 := z0 _ _ pf1
          have ypf2 := z0 _ _ pf2
          have ypg0 := z0 _ _ pg0
          have ypg1 := z0 _ _ pg1
          have ypg2 := z0 _ _ pg2
          have ypN0 := z0 _ _ pN0
          have ypN1 := z0 _ _ pN1
          have ypN2 := z0 _ _ pN2
          have yx0 := z0 _ _ x0
          have yx1 := z0 _ _ x1
          have yx2 := z0 _ _ x2
          clear z0
          go_simp
          with_reducible rfl
        rotate_left
        · simp only [Act.put, List.setIfInBounds_toArray, List.set_cons_zero, List.set_cons_succ, i64_w, i32_w]
          rfl
        refine take_ (i := 2) (N := some 60) (v := ?_) (a' := ?_) #[true, true, true, true, false, false, false, false, true, false, true, false, false, false, false] rfl rfl (take_of HT_.out (by kernel_rfl)) (fun _ _ _ h => h) (Or.inl ⟨by rfl, ?_⟩) hHeld ?_ ?_
        rotate_left
        · intro w' hs
          have z0 := fun j v (h : w8.cell? j = some v) => (hs.cell (World.block_lt_of_cell? _ _ h)).trans h
          have ypf0 := z0 _ _ pf0
          have ypf1 := z0 _ _ pf1
          have ypf2 := z0 _ _ pf2
          have ypg0 := z0 _ _ pg0
          have ypg1 := z0 _ _ pg1
          have ypg2 := z0 _ _ pg2
          have ypN0 := z0 _ _ pN0
          have ypN1 := z0 _ _ pN1
          have ypN2 := z0 _ _ pN2
          have yx0 := z0 _ _ x0
          have yx1 := z0 _ _ x1
          have yx2 := z0 _ _ x2
          clear z0
          go_simp
          with_reducible rfl
        rotate_left
        · simp only [Act.put, List.setIfInBounds_toArray, List.set_cons_zero, List.set_cons_succ, i64_w, i32_w]
          rfl
        refine pure_ (i := 4) (N := some 62) (v := ?_) (a' := ?_) #[true, true, true, true, true, false, false, false, true, false, true, false, false, false, false] rfl rfl (any_of HT_.out (by kernel_rfl)) (fun _ _ _ h => h) (Or.inl ⟨by rfl, ?_⟩) ?_ ?_
        rotate_left
        · intro w'
          go_simp
          with_reducible rfl
        rotate_left
        · simp only [Act.put, List.setIfInBounds_toArray, List.set_cons_zero, List.set_cons_succ, i64_w, i32_w]
          rfl
        refine take_ (i := 5) (N := some 63) (v := ?_) (a' := ?_) #[true, true, true, true, true, true, false, false, true, false, true, false, false, false, false] rfl rfl (take_of HT_.out (by kernel_rfl)) (fun _ _ _ h => h) (Or.inl ⟨by rfl, ?_⟩) hHeld ?_ ?_
        rotate_left
        · intro w' hs
          have z0 := fun j v (h : w8.cell? j = some v) => (hs.cell (World.block_lt_of_cell? _ _ h)).trans h
          have ypf0 := z0 _ _ pf0
          have ypf1 := z0 _ _ pf1
          have ypf2 := z0 _ _ pf2
          have ypg0 := z0 _ _ pg0
          have ypg1 := z0 _ _ pg1
          have ypg2 := z0 _ _ pg2
          have ypN0 := z0 _ _ pN0
          have ypN1 := z0 _ _ pN1
          have ypN2 := z0 _ _ pN2
          have yx0 := z0 _ _ x0
          have yx1 := z0 _ _ x1
          have yx2 := z0 _ _ x2
          clear z0
          go_simp
          with_reducible rfl
        rotate_left
        · simp only [Act.put, List.setIfInBounds_toArray, List.set_cons_zero, List.set_cons_succ, i64_w, i32_w]
          rfl
        refine take_ (i := 7) (N := some 65) (v := ?_) (a' := ?_) #[true, true, true, true, true, true, false, true, true, false, true, false, false, false, false] rfl rfl (take_of HT_.out (by kernel_rfl)) (fun _ _ _ h => h) (Or.inl ⟨by rfl, ?_⟩) hHeld ?_ ?_
        rotate_left
        · intro w' hs
          have z0 := fun j v (h : w8.cell? j = some v) => (hs.cell (World.block_lt_of_cell? _ _ h)).trans h
          have ypf0 := z0 _ _ pf0
          have ypf1 := z0 _ _ pf1
          have ypf2 := z0 _ _ pf2
          have ypg0 := z0 _ _ pg0
          have ypg1 := z0 _ _ pg1
          have ypg2 := z0 _ _ pg2
          have ypN0 := z0 _ _ pN0
          have ypN1 := z0 _ _ pN1
          have ypN2 := z0 _ _ pN2
          have yx0 := z0 _ _ x0
          have yx1 := z0 _ _ x1
          have yx2 := z0 _ _ x2
          clear z0
          go_simp
          with_reducible rfl
        rotate_left
        · simp only [Act.put, List.setIfInBounds_toArray, List.set_cons_zero, List.set_cons_succ, i64_w, i32_w]
          rfl
        refine take_ (i := 9) (N := some 67) (v := ?_) (a' := ?_) #[true, true, true, true, true, true, false, true, true, true, true, false, false, false, false] rfl rfl (take_of HT_.out (by kernel_rfl)) (fun _ _ _ h => h) (Or.inl ⟨by rfl, ?_⟩) hHeld ?_ ?_
        rotate_left
        · intro w' hs
          have z0 := fun j v (h : w8.cell? j = some v) => (hs.cell (World.block_lt_of_cell? _ _ h)).trans h
          have ypf0 := z0 _ _ pf0
          have ypf1 := z0 _ _ pf1
          have ypf2 := z0 _ _ pf2
          have ypg0 := z0 _ _ pg0
          have ypg1 := z0 _ _ pg1
          have ypg2 := z0 _ _ pg2
          have ypN0 := z0 _ _ pN0
          have ypN1 := z0 _ _ pN1
          have ypN2 := z0 _ _ pN2
          have yx0 := z0 _ _ x0
          have yx1 := z0 _ _ x1
          have yx2 := z0 _ _ x2
          clear z0
          go_simp
          with_reducible rfl
        rotate_left
        · simp only [Act.put, List.setIfInBounds_toArray, List.set_cons_zero, List.set_cons_succ, i64_w, i32_w]
          rfl
        refine pure_ (i := 11) (N := some 69) (v := ?_) (a' := ?_) #[true, true, true, true, true, true, false, true, true, true, true, true, false, false, false] rfl rfl (any_of HT_.out (by kernel_rfl)) (fun _ _ _ h => h) (Or.inl ⟨by rfl, ?_⟩) ?_ ?_
        rotate_left
        · intro w'
          go_simp
          with_reducible rfl
        rotate_left
        · simp only [Act.put, List.setIfInBounds_toArray, List.set_cons_zero, List.set_cons_succ, i64_w, i32_w]
          rfl
        refine take_ (i := 12) (N := some 70) (v := ?_) (a' := ?_) #[true, true, true, true, true, true, false, true, true, true, true, true, true, false, false] rfl rfl (take_of HT_.out (by kernel_rfl)) (fun _ _ _ h => h) (Or.inl ⟨by rfl, ?_⟩) hHeld ?_ ?_
        rotate_left
        · intro w' hs
          have z0 := fun j v (h : w8.cell? j = some v) => (hs.cell (World.block_lt_of_cell? _ _ h)).trans h
          have ypf0 := z0 _ _ pf0
          have ypf1 := z0 _ _ pf1
          have ypf2 := z0 _ _ pf2
          have ypg0 := z0 _ _ pg0
          have ypg1 := z0 _ _ pg1
          have ypg2 := z0 _ _ pg2
          have ypN0 := z0 _ _ pN0
          have ypN1 := z0 _ _ pN1
          have ypN2 := z0 _ _ pN2
          have yx0 := z0 _ _ x0
          have yx1 := z0 _ _ x1
          have yx2 := z0 _ _ x2
          clear z0
          go_simp
          with_reducible rfl
        rotate_left
        · simp only [Act.put, List.setIfInBounds_toArray, List.set_cons_zero, List.set_cons_succ, i64_w, i32_w]
          rfl
        refine one_ (i := 6) (N := some 64) #[true, true, true, true, true, true, true, true, true, true, true, true, true, false, false] rfl rfl (one_of HT_.out (by kernel_rfl)) (by decide) (fun K hK => ?_)
        refine goes_ Tryz.func16 (by kernel_rfl) rfl #[.agg #[.slice N0 nN0 cN0, .slice N1 nN1 cN1, .slice N2 nN2 cN2], .agg #[.int .i64 y.f0, .int .i64 y.f1, .string y.f2]] (by rfl) rfl rfl (by (try simp only [List.map_toArray, List.map_cons, List.map_nil]); first | done | rfl) ?_
        refine (readsV (VN.out.below hbD) HSm.out y).mono ?_
        rintro e we ⟨rfl, hb⟩
        refine ⟨_, rfl, ?_⟩
        have hbE := below_step hbD hb
        clear hb hHeld
        refine hK.out _ _ hbE (fun hHeld => ?_)
        clear hK K
        refine norm_ (a' := ?_) ?_ ?_
        rotate_left
        · show Act.put _ (some 64) _ = _
          simp only [Act.put, List.setIfInBounds_toArray, List.set_cons_zero, List.set_cons_succ, i64_w, i32_w]
          rfl
        refine one_ (i := 13) (N := some 71) #[true, true, true, true, true, true, true, true, true, true, true, true, true, true, false] rfl rfl (one_of HT_.out (by kernel_rfl)) (by decide) (fun K hK => ?_)
        refine goes_ Tryz.func16 (by kernel_rfl) rfl #[.agg #[.slice A0 m0 a0, .slice A1 m1 a1, .slice A2 m2 a2], .agg #[.int .i64 y.f0, .int .i64 y.f1, .string y.f2]] (by rfl) rfl rfl (by (try simp only [List.map_toArray, List.map_cons, List.map_nil]); first | done | rfl) ?_
        refine (readsV (Vf.out.below hbE) HFs.out y).mono ?_
        rintro e wf ⟨rfl, hb⟩
        refine ⟨_, rfl, ?_⟩
        have hbF := below_step hbE hb
        clear hb hHeld
        rw [HEq.out.reads y]
        refine hK.out _ _ hbF (fun hHeld => ?_)
        clear hK K
        refine norm_ (a' := ?_) ?_ ?_
        rotate_left
        · show Act.put _ (some 71) _ = _
          simp only [Act.put, List.setIfInBounds_toArray, List.set_cons_zero, List.set_cons_succ, i64_w, i32_w]
          rfl
        refine pure_ (i := 14) (N := some 72) (v := ?_) (a' := ?_) #[true, true, true, true, true, true, true, true, true, true, true, true, true, true, true] rfl rfl (any_of HT_.out (by kernel_rfl)) (fun _ _ _ h => h) (Or.inl ⟨by rfl, ?_⟩) ?_ ?_
        rotate_left
        · intro w'
          go_simp
          with_reducible rfl
        rotate_left
        · simp only [Act.put, List.setIfInBounds_toArray, List.set_cons_zero, List.set_cons_succ, i64_w, i32_w]
          rfl
        refine done_ (done_of HT_.out (by kernel_rfl)) ?_
        clear hHeld HT_
        generalize readsS h'.ps h'.ss y = rb at *
        --@H
        have HF := Aside0.mk (below_step HB.out hbF)
        clear hbD hbE hbF
        go_wp2
        go_roundg (n2 - (k + 1))
        case measure => have := HM.out; omega
        case rel => exact ⟨k + 1, by go_num, hlt, ⟨Nat.le_refl _⟩, HF⟩
      · have hltz : ¬ (k : Int) < (n2 : Int) := by omega
        --@I
        go_wp2_with fail
        clear pf0 pf1 pf2 pg0 pg1 pg2 pN0 pN1 pN2
        have HClE := Aside0.mk (show clashSS f g = clashSS h' g from clash_eqv HEq.out)
        obtain ⟨pp, hpp⟩ : ∃ p, p = (clashSS f g).getD zP := ⟨_, rfl⟩
        obtain ⟨pb, hpb⟩ : ∃ b, b = (clashSS f g).isSome := ⟨_, rfl⟩
        have HPP := Aside0.mk hpp
        have HPB := Aside0.mk hpb
        clear hpp hpb
        refine (clashV VN.out Vg.out HSm.out HNw.out.1 HGw'.out.1).mono ?_
        rintro e w9 ⟨rfl, hb⟩
        rw [← HClE.out]
        unfold tellV pv
        rw [← HPP.out, ← HPB.out]
        have Ef := Aside0.mk ((hb.block _ (lt_of Ef.out)).trans Ef.out)
        have Eg := Aside0.mk ((hb.block _ (lt_of Eg.out)).trans Eg.out)
        have Ei := Aside0.mk ((hb.block _ (lt_of Ei.out)).trans Ei.out)
        have EN := Aside0.mk ((hb.block _ (lt_of EN.out)).trans EN.out)
        have Vf := Aside0.mk (Vf.out.below hb)
        have Vg := Aside0.mk (Vg.out.below hb)
        have Vi := Aside0.mk (Vi.out.below hb)
        have VN := Aside0.mk (VN.out.below hb)
        have HC9 := Aside0.mk (below_step HC8.out hb)
        clear hb
        generalize hW : w9.alloc (.cells #[.int .i64 pp.f0, .int .i64 pp.f1, .string pp.f2] 37) = w10
        have hb : Below w9.heap.size w9 w10 := by rw [← hW]; exact below_alloc (Below.refl _ _) _
        have Ex := Aside0.mk (show w10.heap[w9.heap.size]? = some (.cells #[.int .i64 pp.f0, .int .i64 pp.f1, .string pp.f2] 37) by rw [← hW]; exact heap_new _ _)
        have Ef := Aside0.mk ((hb.block _ (lt_of Ef.out)).trans Ef.out)
        have Eg := Aside0.mk ((hb.block _ (lt_of Eg.out)).trans Eg.out)
        have Ei := Aside0.mk ((hb.block _ (lt_of Ei.out)).trans Ei.out)
        have EN := Aside0.mk ((hb.block _ (lt_of EN.out)).trans EN.out)
        have Vf := Aside0.mk (Vf.out.below hb)
        have Vg := Aside0.mk (Vg.out.below hb)
        have Vi := Aside0.mk (Vi.out.below hb)
        have VN := Aside0.mk (VN.out.below hb)
        have HC10 := Aside0.mk (below_step HC9.out hb)
        clear hb
        have pf0 : (w9.alloc (.cells #[.int .i64 pp.f0, .int .i64 pp.f1, .string pp.f2] 37)).cell? ⟨w.heap.size, 0, none⟩ = some (.slice A0 m0 a0) := by rw [hW]; exact cell_of Ef.out 0
        have pf1 : (w9.alloc (.cells #[.int .i64 pp.f0, .int .i64 pp.f1, .string pp.f2] 37)).cell? ⟨w.heap.size, 1, none⟩ = some (.slice A1 m1 a1) := by rw [hW]; exact cell_of Ef.out 1
        have pf2 : (w9.alloc (.cells #[.int .i64 pp.f0, .int .i64 pp.f1, .string pp.f2] 37)).cell? ⟨w.heap.size, 2, none⟩ = some (.slice A2 m2 a2) := by rw [hW]; exact cell_of Ef.out 2
        have pg0 : (w9.alloc (.cells #[.int .i64 pp.f0, .int .i64 pp.f1, .string pp.f2] 37)).cell? ⟨w.heap.size + 1, 0, none⟩ = some (.slice B0 n0 b0) := by rw [hW]; exact cell_of Eg.out 0
        have pg1 : (w9.alloc (.cells #[.int .i64 pp.f0, .int .i64 pp.f1, .string pp.f2] 37)).cell? ⟨w.heap.size + 1, 1, none⟩ = some (.slice B1 n1 b1) := by rw [hW]; exact cell_of Eg.out 1
        have pg2 : (w9.alloc (.cells #[.int .i64 pp.f0, .int .i64 pp.f1, .string pp.f2] 37)).cell? ⟨w.heap.size + 1, 2, none⟩ = some (.slice B2 n2 b2) := by rw [hW]; exact cell_of Eg.out 2
        have HW := Aside0.mk hW
        clear hW
        --@J
        go_wp2_with fail
        rw [HW.out]
        clear HW
        clear pf0 pf1 pf2 pg0 pg1 pg2
        refine (clashV Vf.out Vg.out HFs.out HFw.out.1 HGw'.out.1).mono ?_
        rintro e w11 ⟨rfl, hb⟩
        unfold tellV pv
        rw [← HPP.out, ← HPB.out]
        have Ef := Aside0.mk ((hb.block _ (lt_of Ef.out)).trans Ef.out)
        have Eg := Aside0.mk ((hb.block _ (lt_of Eg.out)).trans Eg.out)
        have Ei := Aside0.mk ((hb.block _ (lt_of Ei.out)).trans Ei.out)
        have EN := Aside0.mk ((hb.block _ (lt_of EN.out)).trans EN.out)
        have Ex := Aside0.mk ((hb.block _ (lt_of Ex.out)).trans Ex.out)
        have Vf := Aside0.mk (Vf.out.below hb)
        have Vg := Aside0.mk (Vg.out.below hb)
        have Vi := Aside0.mk (Vi.out.below hb)
        have VN := Aside0.mk (VN.out.below hb)
        have HC11 := Aside0.mk (below_step HC10.out hb)
        clear hb
        generalize hW : w11.alloc (.cells #[.int .i64 pp.f0, .int .i64 pp.f1, .string pp.f2] 37) = w12
        have hb : Below w11.heap.size w11 w12 := by rw [← hW]; exact below_alloc (Below.refl _ _) _
        have Ey := Aside0.mk (show w12.heap[w11.heap.size]? = some (.cells #[.int .i64 pp.f0, .int .i64 pp.f1, .string pp.f2] 37) by rw [← hW]; exact heap_new _ _)
        have Ef := Aside0.mk ((hb.block _ (lt_of Ef.out)).trans Ef.out)
        have Eg := Aside0.mk ((hb.block _ (lt_of Eg.out)).trans Eg.out)
        have Ei := Aside0.mk ((hb.block _ (lt_of Ei.out)).trans Ei.out)
        have EN := Aside0.mk ((hb.block _ (lt_of EN.out)).trans EN.out)
        have Ex := Aside0.mk ((hb.block _ (lt_of Ex.out)).trans Ex.out)
        have Vf := Aside0.mk (Vf.out.below hb)
        have Vg := Aside0.mk (Vg.out.below hb)
        have Vi := Aside0.mk (Vi.out.below hb)
        have VN := Aside0.mk (VN.out.below hb)
        have HC12 := Aside0.mk (below_step HC11.out hb)
        clear hb
        have px0 : (w11.alloc (.cells #[.int .i64 pp.f0, .int .i64 pp.f1, .string pp.f2] 37)).cell? ⟨w9.heap.size, 0, none⟩ = some (.int .i64 pp.f0) := by rw [hW]; exact cell_of Ex.out 0
        have px1 : (w11.alloc (.cells #[.int .i64 pp.f0, .int .i64 pp.f1, .string pp.f2] 37)).cell? ⟨w9.heap.size, 1, none⟩ = some (.int .i64 pp.f1) := by rw [hW]; exact cell_of Ex.out 1
        have px2 : (w11.alloc (.cells #[.int .i64 pp.f0, .int .i64 pp.f1, .string pp.f2] 37)).cell? ⟨w9.heap.size, 2, none⟩ = some (.string pp.f2) := by rw [hW]; exact cell_of Ex.out 2
        have pf0 : (w11.alloc (.cells #[.int .i64 pp.f0, .int .i64 pp.f1, .string pp.f2] 37)).cell? ⟨w.heap.size, 0, none⟩ = some (.slice A0 m0 a0) := by rw [hW]; exact cell_of Ef.out 0
        have pf1 : (w11.alloc (.cells #[.int .i64 pp.f0, .int .i64 pp.f1, .string pp.f2] 37)).cell? ⟨w.heap.size, 1, none⟩ = some (.slice A1 m1 a1) := by rw [hW]; exact cell_of Ef.out 1
        have pf2 : (w11.alloc (.cells #[.int .i64 pp.f0, .int .i64 pp.f1, .string pp.f2] 37)).cell? ⟨w.heap.size, 2, none⟩ = some (.slice A2 m2 a2) := by rw [hW]; exact cell_of Ef.out 2
        have pg0 : (w11.alloc (.cells #[.int .i64 pp.f0, .int .i64 pp.f1, .string pp.f2] 37)).cell? ⟨w.heap.size + 1, 0, none⟩ = some (.slice B0 n0 b0) := by rw [hW]; exact cell_of Eg.out 0
        have pg1 : (w11.alloc (.cells #[.int .i64 pp.f0, .int .i64 pp.f1, .string pp.f2] 37)).cell? ⟨w.heap.size + 1, 1, none⟩ = some (.slice B1 n1 b1) := by rw [hW]; exact cell_of Eg.out 1
        have pg2 : (w11.alloc (.cells #[.int .i64 pp.f0, .int .i64 pp.f1, .string pp.f2] 37)).cell? ⟨w.heap.size + 1, 2, none⟩ = some (.slice B2 n2 b2) := by rw [hW]; exact cell_of Eg.out 2
        have HW := Aside0.mk hW
        clear hW
        --@K
        go_wp2_with fail
        rw [HW.out]
        clear HW
        clear px0 px1 px2 pf0 pf1 pf2 pg0 pg1 pg2
        refine (mergeL Vf.out Vg.out HFs.out HGs.out HFw.out HGw'.out).mono ?_
        rintro e w13 ⟨fP, vP, rfl, hr, hl, hb⟩
        have HP := Aside0.mk hr
        obtain ⟨P0, P1, P2, nP0, nP1, nP2, cP0, cP1, cP2, rfl, hv⟩ := hl
        have VP := Aside0.mk hv
        clear hr hv
        obtain ⟨mP, hm⟩ : ∃ c, c = mergeC f g := ⟨_, rfl⟩
        rw [← hm]
        have HMP := Aside0.mk hm
        clear hm
        have Ef := Aside0.mk ((hb.block _ (lt_of Ef.out)).trans Ef.out)
        have Eg := Aside0.mk ((hb.block _ (lt_of Eg.out)).trans Eg.out)
        have Ei := Aside0.mk ((hb.block _ (lt_of Ei.out)).trans Ei.out)
        have Vf := Aside0.mk (Vf.out.below hb)
        have Vg := Aside0.mk (Vg.out.below hb)
        have Vi := Aside0.mk (Vi.out.below hb)
        have HC13 := Aside0.mk (below_step HC12.out hb)
        clear hb
        generalize hW : w13.alloc (.cells #[.slice P0 nP0 cP0, .slice P1 nP1 cP1, .slice P2 nP2 cP2] 25) = w14
        have hb : Below w13.heap.size w13 w14 := by rw [← hW]; exact below_alloc (Below.refl _ _) _
        have EP := Aside0.mk (show w14.heap[w13.heap.size]? = some (.cells #[.slice P0 nP0 cP0, .slice P1 nP1 cP1, .slice P2 nP2 cP2] 25) by rw [← hW]; exact heap_new _ _)
        have Ef := Aside0.mk ((hb.block _ (lt_of Ef.out)).trans Ef.out)
        have Eg := Aside0.mk ((hb.block _ (lt_of Eg.out)).trans Eg.out)
        have Ei := Aside0.mk ((hb.block _ (lt_of Ei.out)).trans Ei.out)
        have Vf := Aside0.mk (Vf.out.below hb)
        have Vg := Aside0.mk (Vg.out.below hb)
        have Vi := Aside0.mk (Vi.out.below hb)
        have VP := Aside0.mk (VP.out.below hb)
        have HC14 := Aside0.mk (below_step HC13.out hb)
        clear hb
        have pg0 : (w13.alloc (.cells #[.slice P0 nP0 cP0, .slice P1 nP1 cP1, .slice P2 nP2 cP2] 25)).cell? ⟨w.heap.size + 1, 0, none⟩ = some (.slice B0 n0 b0) := by rw [hW]; exact cell_of Eg.out 0
        have pg1 : (w13.alloc (.cells #[.slice P0 nP0 cP0, .slice P1 nP1 cP1, .slice P2 nP2 cP2] 25)).cell? ⟨w.heap.size + 1, 1, none⟩ = some (.slice B1 n1 b1) := by rw [hW]; exact cell_of Eg.out 1
        have pg2 : (w13.alloc (.cells #[.slice P0 nP0 cP0, .slice P1 nP1 cP1, .slice P2 nP2 cP2] 25)).cell? ⟨w.heap.size + 1, 2, none⟩ = some (.slice B2 n2 b2) := by rw [hW]; exact cell_of Eg.out 2
        have pi0 : (w13.alloc (.cells #[.slice P0 nP0 cP0, .slice P1 nP1 cP1, .slice P2 nP2 cP2] 25)).cell? ⟨w.heap.size + 1 + 1, 0, none⟩ = some (.slice D0 l0 d0) := by rw [hW]; exact cell_of Ei.out 0
        have pi1 : (w13.alloc (.cells #[.slice P0 nP0 cP0, .slice P1 nP1 cP1, .slice P2 nP2 cP2] 25)).cell? ⟨w.heap.size + 1 + 1, 1, none⟩ = some (.slice D1 l1 d1) := by rw [hW]; exact cell_of Ei.out 1
        have pi2 : (w13.alloc (.cells #[.slice P0 nP0 cP0, .slice P1 nP1 cP1, .slice P2 nP2 cP2] 25)).cell? ⟨w.heap.size + 1 + 1, 2, none⟩ = some (.slice D2 l2 d2) := by rw [hW]; exact cell_of Ei.out 2
        have HW := Aside0.mk hW
        clear hW
        --@MP
        go_wp2_with fail
        rw [HW.out]
        clear HW
        clear pg0 pg1 pg2 pi0 pi1 pi2
        refine (mergeL Vg.out Vi.out HGs.out HIs.out HGw'.out HIw.out).mono ?_
        rintro e w15 ⟨fQ, vQ, rfl, hr, hl, hb⟩
        have HQ := Aside0.mk hr
        obtain ⟨Q0, Q1, Q2, nQ0, nQ1, nQ2, cQ0, cQ1, cQ2, rfl, hv⟩ := hl
        have VQ := Aside0.mk hv
        clear hr hv
        obtain ⟨mQ, hm⟩ : ∃ c, c = mergeC g i := ⟨_, rfl⟩
        rw [← hm]
        have HMQ := Aside0.mk hm
        clear hm
        have Ef := Aside0.mk ((hb.block _ (lt_of Ef.out)).trans Ef.out)
        have Eg := Aside0.mk ((hb.block _ (lt_of Eg.out)).trans Eg.out)
        have Ei := Aside0.mk ((hb.block _ (lt_of Ei.out)).trans Ei.out)
        have EP := Aside0.mk ((hb.block _ (lt_of EP.out)).trans EP.out)
        have Vf := Aside0.mk (Vf.out.below hb)
        have Vg := Aside0.mk (Vg.out.below hb)
        have Vi := Aside0.mk (Vi.out.below hb)
        have VP := Aside0.mk (VP.out.below hb)
        have HC15 := Aside0.mk (below_step HC14.out hb)
        clear hb
        generalize hW : w15.alloc (.cells #[.slice Q0 nQ0 cQ0, .slice Q1 nQ1 cQ1, .slice Q2 nQ2 cQ2] 25) = w16
        have hb : Below w15.heap.size w15 w16 := by rw [← hW]; exact below_alloc (Below.refl _ _) _
        have EQ := Aside0.mk (show w16.heap[w15.heap.size]? = some (.cells #[.slice Q0 nQ0 cQ0, .slice Q1 nQ1 cQ1, .slice Q2 nQ2 cQ2] 25) by rw [← hW]; exact heap_new _ _)
        have Ef := Aside0.mk ((hb.block _ (lt_of Ef.out)).trans Ef.out)
        have Eg := Aside0.mk ((hb.block _ (lt_of Eg.out)).trans Eg.out)
        have Ei := Aside0.mk ((hb.block _ (lt_of Ei.out)).trans Ei.out)
        have EP := Aside0.mk ((hb.block _ (lt_of EP.out)).trans EP.out)
        have Vf := Aside0.mk (Vf.out.below hb)
        have Vg := Aside0.mk (Vg.out.below hb)
        have Vi := Aside0.mk (Vi.out.below hb)
        have VP := Aside0.mk (VP.out.below hb)
        have VQ := Aside0.mk (VQ.out.below hb)
        have HC16 := Aside0.mk (below_step HC15.out hb)
        clear hb
        have pP0 : (w15.alloc (.cells #[.slice Q0 nQ0 cQ0, .slice Q1 nQ1 cQ1, .slice Q2 nQ2 cQ2] 25)).cell? ⟨w13.heap.size, 0, none⟩ = some (.slice P0 nP0 cP0) := by rw [hW]; exact cell_of EP.out 0
        have pP1 : (w15.alloc (.cells #[.slice Q0 nQ0 cQ0, .slice Q1 nQ1 cQ1, .slice Q2 nQ2 cQ2] 25)).cell? ⟨w13.heap.size, 1, none⟩ = some (.slice P1 nP1 cP1) := by rw [hW]; exact cell_of EP.out 1
        have pP2 : (w15.alloc (.cells #[.slice Q0 nQ0 cQ0, .slice Q1 nQ1 cQ1, .slice Q2 nQ2 cQ2] 25)).cell? ⟨w13.heap.size, 2, none⟩ = some (.slice P2 nP2 cP2) := by rw [hW]; exact cell_of EP.out 2
        have pi0 : (w15.alloc (.cells #[.slice Q0 nQ0 cQ0, .slice Q1 nQ1 cQ1, .slice Q2 nQ2 cQ2] 25)).cell? ⟨w.heap.size + 1 + 1, 0, none⟩ = some (.slice D0 l0 d0) := by rw [hW]; exact cell_of Ei.out 0
        have pi1 : (w15.alloc (.cells #[.slice Q0 nQ0 cQ0, .slice Q1 nQ1 cQ1, .slice Q2 nQ2 cQ2] 25)).cell? ⟨w.heap.size + 1 + 1, 1, none⟩ = some (.slice D1 l1 d1) := by rw [hW]; exact cell_of Ei.out 1
        have pi2 : (w15.alloc (.cells #[.slice Q0 nQ0 cQ0, .slice Q1 nQ1 cQ1, .slice Q2 nQ2 cQ2] 25)).cell? ⟨w.heap.size + 1 + 1, 2, none⟩ = some (.slice D2 l2 d2) := by rw [hW]; exact cell_of Ei.out 2
        have HW := Aside0.mk hW
        clear hW
        --@MQ
        go_wp2_with fail
        rw [HW.out]
        clear HW
        clear pP0 pP1 pP2 pi0 pi1 pi2
        refine (mergeL VP.out Vi.out HP.out.small HIs.out (HP.out.wfs HFw.out HGw'.out) HIw.out).mono ?_
        rintro e w17 ⟨fR, vR, rfl, hr, hl, hb⟩
        have HR := Aside0.mk hr
        obtain ⟨R0, R1, R2, nR0, nR1, nR2, cR0, cR1, cR2, rfl, hv⟩ := hl
        have VR := Aside0.mk hv
        clear hr hv
        obtain ⟨mR, hm⟩ : ∃ c, c = mergeC fP i := ⟨_, rfl⟩
        rw [← hm]
        have HMR := Aside0.mk hm
        clear hm
        have Ef := Aside0.mk ((hb.block _ (lt_of Ef.out)).trans Ef.out)
        have Eg := Aside0.mk ((hb.block _ (lt_of Eg.out)).trans Eg.out)
        have Ei := Aside0.mk ((hb.block _ (lt_of Ei.out)).trans Ei.out)
        have EP := Aside0.mk ((hb.block _ (lt_of EP.out)).trans EP.out)
        have EQ := Aside0.mk ((hb.block _ (lt_of EQ.out)).trans EQ.out)
        have Vf := Aside0.mk (Vf.out.below hb)
        have Vg := Aside0.mk (Vg.out.below hb)
        have Vi := Aside0.mk (Vi.out.below hb)
        have VP := Aside0.mk (VP.out.below hb)
        have VQ := Aside0.mk (VQ.out.below hb)
        have HC17 := Aside0.mk (below_step HC16.out hb)
        clear hb
        generalize hW : w17.alloc (.cells #[.slice R0 nR0 cR0, .slice R1 nR1 cR1, .slice R2 nR2 cR2] 25) = w18
        have hb : Below w17.heap.size w17 w18 := by rw [← hW]; exact below_alloc (Below.refl _ _) _
        have ER := Aside0.mk (show w18.heap[w17.heap.size]? = some (.cells #[.slice R0 nR0 cR0, .slice R1 nR1 cR1, .slice R2 nR2 cR2] 25) by rw [← hW]; exact heap_new _ _)
        have Ef := Aside0.mk ((hb.block _ (lt_of Ef.out)).trans Ef.out)
        have Eg := Aside0.mk ((hb.block _ (lt_of Eg.out)).trans Eg.out)
        have Ei := Aside0.mk ((hb.block _ (lt_of Ei.out)).trans Ei.out)
        have EP := Aside0.mk ((hb.block _ (lt_of EP.out)).trans EP.out)
        have EQ := Aside0.mk ((hb.block _ (lt_of EQ.out)).trans EQ.out)
        have Vf := Aside0.mk (Vf.out.below hb)
        have Vg := Aside0.mk (Vg.out.below hb)
        have Vi := Aside0.mk (Vi.out.below hb)
        have VP := Aside0.mk (VP.out.below hb)
        have VQ := Aside0.mk (VQ.out.below hb)
        have VR := Aside0.mk (VR.out.below hb)
        have HC18 := Aside0.mk (below_step HC17.out hb)
        clear hb
        have pf0 : (w17.alloc (.cells #[.slice R0 nR0 cR0, .slice R1 nR1 cR1, .slice R2 nR2 cR2] 25)).cell? ⟨w.heap.size, 0, none⟩ = some (.slice A0 m0 a0) := by rw [hW]; exact cell_of Ef.out 0
        have pf1 : (w17.alloc (.cells #[.slice R0 nR0 cR0, .slice R1 nR1 cR1, .slice R2 nR2 cR2] 25)).cell? ⟨w.heap.size, 1, none⟩ = some (.slice A1 m1 a1) := by rw [hW]; exact cell_of Ef.out 1
        have pf2 : (w17.alloc (.cells #[.slice R0 nR0 cR0, .slice R1 nR1 cR1, .slice R2 nR2 cR2] 25)).cell? ⟨w.heap.size, 2, none⟩ = some (.slice A2 m2 a2) := by rw [hW]; exact cell_of Ef.out 2
        have pQ0 : (w17.alloc (.cells #[.slice R0 nR0 cR0, .slice R1 nR1 cR1, .slice R2 nR2 cR2] 25)).cell? ⟨w15.heap.size, 0, none⟩ = some (.slice Q0 nQ0 cQ0) := by rw [hW]; exact cell_of EQ.out 0
        have pQ1 : (w17.alloc (.cells #[.slice R0 nR0 cR0, .slice R1 nR1 cR1, .slice R2 nR2 cR2] 25)).cell? ⟨w15.heap.size, 1, none⟩ = some (.slice Q1 nQ1 cQ1) := by rw [hW]; exact cell_of EQ.out 1
        have pQ2 : (w17.alloc (.cells #[.slice R0 nR0 cR0, .slice R1 nR1 cR1, .slice R2 nR2 cR2] 25)).cell? ⟨w15.heap.size, 2, none⟩ = some (.slice Q2 nQ2 cQ2) := by rw [hW]; exact cell_of EQ.out 2
        have HW := Aside0.mk hW
        clear hW
        --@MR
        go_wp2_with fail
        rw [HW.out]
        clear HW
        clear pf0 pf1 pf2 pQ0 pQ1 pQ2
        refine (mergeL Vf.out VQ.out HFs.out HQ.out.small HFw.out (HQ.out.wfs HGw'.out HIw.out)).mono ?_
        rintro e w19 ⟨fS, vS, rfl, hr, hl, hb⟩
        have HS := Aside0.mk hr
        obtain ⟨S0, S1, S2, nS0, nS1, nS2, cS0, cS1, cS2, rfl, hv⟩ := hl
        have VS := Aside0.mk hv
        clear hr hv
        obtain ⟨mS, hm⟩ : ∃ c, c = mergeC f fQ := ⟨_, rfl⟩
        rw [← hm]
        have HMS := Aside0.mk hm
        clear hm
        have Ef := Aside0.mk ((hb.block _ (lt_of Ef.out)).trans Ef.out)
        have Eg := Aside0.mk ((hb.block _ (lt_of Eg.out)).trans Eg.out)
        have Ei := Aside0.mk ((hb.block _ (lt_of Ei.out)).trans Ei.out)
        have EP := Aside0.mk ((hb.block _ (lt_of EP.out)).trans EP.out)
        have EQ := Aside0.mk ((hb.block _ (lt_of EQ.out)).trans EQ.out)
        have ER := Aside0.mk ((hb.block _ (lt_of ER.out)).trans ER.out)
        have Vf := Aside0.mk (Vf.out.below hb)
        have Vg := Aside0.mk (Vg.out.below hb)
        have Vi := Aside0.mk (Vi.out.below hb)
        have VP := Aside0.mk (VP.out.below hb)
        have VQ := Aside0.mk (VQ.out.below hb)
        have VR := Aside0.mk (VR.out.below hb)
        have HC19 := Aside0.mk (below_step HC18.out hb)
        clear hb
        generalize hW : w19.alloc (.cells #[.slice S0 nS0 cS0, .slice S1 nS1 cS1, .slice S2 nS2 cS2] 25) = w20
        have hb : Below w19.heap.size w19 w20 := by rw [← hW]; exact below_alloc (Below.refl _ _) _
        have ES := Aside0.mk (show w20.heap[w19.heap.size]? = some (.cells #[.slice S0 nS0 cS0, .slice S1 nS1 cS1, .slice S2 nS2 cS2] 25) by rw [← hW]; exact heap_new _ _)
        have Ef := Aside0.mk ((hb.block _ (lt_of Ef.out)).trans Ef.out)
        have Eg := Aside0.mk ((hb.block _ (lt_of Eg.out)).trans Eg.out)
        have Ei := Aside0.mk ((hb.block _ (lt_of Ei.out)).trans Ei.out)
        have EP := Aside0.mk ((hb.block _ (lt_of EP.out)).trans EP.out)
        have EQ := Aside0.mk ((hb.block _ (lt_of EQ.out)).trans EQ.out)
        have ER := Aside0.mk ((hb.block _ (lt_of ER.out)).trans ER.out)
        have Vf := Aside0.mk (Vf.out.below hb)
        have Vg := Aside0.mk (Vg.out.below hb)
        have Vi := Aside0.mk (Vi.out.below hb)
        have VP := Aside0.mk (VP.out.below hb)
        have VQ := Aside0.mk (VQ.out.below hb)
        have VR := Aside0.mk (VR.out.below hb)
        have VS := Aside0.mk (VS.out.below hb)
        have HC20 := Aside0.mk (below_step HC19.out hb)
        clear hb
        have pR0 : (w19.alloc (.cells #[.slice S0 nS0 cS0, .slice S1 nS1 cS1, .slice S2 nS2 cS2] 25)).cell? ⟨w17.heap.size, 0, none⟩ = some (.slice R0 nR0 cR0) := by rw [hW]; exact cell_of ER.out 0
        have pR1 : (w19.alloc (.cells #[.slice S0 nS0 cS0, .slice S1 nS1 cS1, .slice S2 nS2 cS2] 25)).cell? ⟨w17.heap.size, 1, none⟩ = some (.slice R1 nR1 cR1) := by rw [hW]; exact cell_of ER.out 1
        have pR2 : (w19.alloc (.cells #[.slice S0 nS0 cS0, .slice S1 nS1 cS1, .slice S2 nS2 cS2] 25)).cell? ⟨w17.heap.size, 2, none⟩ = some (.slice R2 nR2 cR2) := by rw [hW]; exact cell_of ER.out 2
        have HW := Aside0.mk hW
        clear hW
        --@N
        by_cases hmP : mP = 0
        · subst hmP
          by_cases hmQ : mQ = 0
          · subst hmQ
            by_cases hmR : mR = 0
            · subst hmR
              by_cases hmS : mS = 0
              · subst hmS
                have HOT := Aside0.mk (show fS = fR from (HP.out.group HQ.out HR.out HS.out HMP.out.symm HMQ.out.symm HMR.out.symm HMS.out.symm).symm)
                go_wp2_with fail
                rw [HW.out]
                clear HW pR0 pR1 pR2
                refine (sameV VR.out (HOT.out ▸ VS.out) HR.out.small).mono ?_
                rintro e wy ⟨rfl, hb⟩
                have HCy := Aside0.mk (below_step HC20.out hb)
                clear hb
                go_wp2_with fail
                refine (awake_any wy).mono ?_
                rintro e wz ⟨rfl, hb⟩
                have HCz := Aside0.mk (below_step HCy.out hb)
                clear hb
                go_wp2
                go_ret
                exact ⟨rfl, HCz.out⟩
              · have hcb : (mS == 0) = false := by simpa using hmS
                go_wp2_with fail
                rw [HW.out]
                clear HW pR0 pR1 pR2
                refine (awake_any w20).mono ?_
                rintro e wz ⟨rfl, hb⟩
                have HCz := Aside0.mk (below_step HC20.out hb)
                clear hb
                go_wp2
                go_ret
                exact ⟨rfl, HCz.out⟩
            · have hcb : (mR == 0) = false := by simpa using hmR
              go_wp2_with fail
              rw [HW.out]
              clear HW pR0 pR1 pR2
              refine (awake_any w20).mono ?_
              rintro e wz ⟨rfl, hb⟩
              have HCz := Aside0.mk (below_step HC20.out hb)
              clear hb
              go_wp2
              go_ret
              exact ⟨rfl, HCz.out⟩
          · have hcb : (mQ == 0) = false := by simpa using hmQ
            go_wp2_with fail
            rw [HW.out]
            clear HW pR0 pR1 pR2
            refine (awake_any w20).mono ?_
            rintro e wz ⟨rfl, hb⟩
            have HCz := Aside0.mk (below_step HC20.out hb)
            clear hb
            go_wp2
            go_ret
            exact ⟨rfl, HCz.out⟩
        · have hcb : (mP == 0) = false := by simpa using hmP
          go_wp2_with fail
          rw [HW.out]
          clear HW pR0 pR1 pR2
          refine (awake_any w20).mono ?_
          rintro e wz ⟨rfl, hb⟩
          have HCz := Aside0.mk (below_step HC20.out hb)
          clear hb
          go_wp2
          go_ret
          exact ⟨rfl, HCz.out⟩
  · have hcb : (cf == 0) = false := by simpa using hc
    --@BAD
    go_wp2_with fail
    rw [HW.out]
    clear HW
    refine (rcheckV Vf.out HFs.out).mono ?_
    rintro e wb ⟨rfl, hb⟩
    rw [← HCf.out]
    have HCb := Aside0.mk (below_step HC4.out hb)
    clear hb
    go_wp2_with (go_at_call 13; refine (awake_any wb).mono ?_; rintro e wz ⟨rfl, hb⟩; have HCz := Aside0.mk (below_step HCb.out hb); clear hb)
    go_ret
    exact ⟨rfl, HCz.out⟩
end Go.Proofs.YtldlenjfpjihdaaGreat.PS
end
section
namespace Go.Proofs.YtldlenjfpjihdaaGreat.setsSay
open Go.ChangeShapes Go.WideShapes Go.ChangeAt Go.RowKit Go.Proofs.YtldlenjfpjihdaaGreatW.PrintWords Go.Proofs.YtldlenjfpjihdaaGreat.PS Go.Proofs.YtldlenjfpjihdaaGreat.OpenK
open Go.ChangeMaps (open_string shut_string)
set_option linter.unusedVariables false
theorem own : ownKnob Tryz.prog.godebug = none := by kernel_rfl
theorem laidOut : laidOutB Tryz.prog = true := by kernel_rfl
set_option maxRecDepth 100000 in
theorem lifted (os : Os) (started : os.Started) (H : Type) (enc : TypeId × Value → H) :
    ReturnsInHanded {} Tryz.checked os 5 .any (Rows.setsSaySpec.pre6 enc Tryz.prog Tryz.f5 Rows.setsSayRow.domain false) (Rows.setsSaySpec.post enc Tryz.prog Tryz.f5 false true false false) := by
  refine returnsInHanded_of_change_sized (C := Tryz.checked) own started (by kernel_rfl) Tryz.func5
    (ChangeSpec.witness6 (enc := enc) (C := Tryz.checked) false ⟨#[], #[.agg #[.slice none 0 0, .slice none 0 0, .slice none 0 0], .agg #[.slice none 0 0, .slice none 0 0, .slice none 0 0], .agg #[.slice none 0 0, .slice none 0 0, .slice none 0 0]], []⟩ 8 (by kernel_rfl) (by kernel_rfl) (by kernel_rfl) (by kernel_rfl)) ?_
  intro W base args ds gs before hval0 hW hcnd hsz0 _
  have hsz : (DataW.weightsEach Tryz.prog (Tryz.f5.params.toList ++ Rows.setsSaySpec.plain.varTypes Tryz.prog) (ds ++ gs)).all (· ≤ reachBytes) = true := hsz0
  have hval : ∀ (j : Nat) t v, Tryz.f5.params[j]? = some t → args[j]? = some v → Value.okWide Tryz.prog W .any base t v := @hval0
  have hW' := hW
  obtain ⟨p, q, hA0, hV, rfl, hfz, hnd⟩ := hW
  have hA : DataW.TrodAll enc Tryz.prog W 0 (fun _ => true) true Tryz.f5.params.toList args.toList ds p := hA0
  rw [Tryz.params5] at hA hval hsz
  obtain ⟨v0, vs0, d0, ds0, p0, q0, hargs, rfl, rfl, h0, r0⟩ := trodAll_cons hA
  obtain ⟨v1, vs1, d1, ds1, p1, q1, rfl, rfl, rfl, h1, r1⟩ := trodAll_cons r0
  obtain ⟨v2, vs2, d2, ds2, p2, q2, rfl, rfl, rfl, h2, r2⟩ := trodAll_cons r1
  obtain ⟨rfl, rfl, rfl⟩ := trodAll_nil r2
  obtain rfl : args = #[v0, v1, v2] := by cases args; simp_all
  obtain ⟨rfl, rfl⟩ := trodVars_none hV
  have hw : (DataW.weightsEach Tryz.prog [25, 25, 25] [d0, d1, d2]).all (· ≤ reachBytes) = true := hsz
  simp only [DataW.weightsEach, all_append_iff] at hw
  obtain ⟨hw0, hw1, hw2, _⟩ := hw
  have k0 := h0
  have lt0 : ∀ x ∈ p0, x.block < W.heap.size := by obtain ⟨m, hm⟩ := k0; exact DataW.trod_lt m _ _ _ hm
  obtain ⟨fuel0, hf0⟩ := h0
  have k1 := h1
  have lt1 : ∀ x ∈ p1, x.block < W.heap.size := by obtain ⟨m, hm⟩ := k1; exact DataW.trod_lt m _ _ _ hm
  obtain ⟨fuel1, hf1⟩ := h1
  have k2 := h2
  have lt2 : ∀ x ∈ p2, x.block < W.heap.size := by obtain ⟨m, hm⟩ := k2; exact DataW.trod_lt m _ _ _ hm
  obtain ⟨fuel2, hf2⟩ := h2
  obtain ⟨A0, A1, A2, c0, c1, c2, f, rfl, ha0, sa0, wa0⟩ := argFt (hval 0 25 v0 rfl rfl) hf0 hw0
  obtain ⟨B0, B1, B2, e0, e1, e2, g, rfl, ha1, sa1, wa1⟩ := argFt (hval 1 25 v1 rfl rfl) hf1 hw1
  obtain ⟨D0, D1, D2, x0, x1, x2, h, rfl, ha2, sa2, wa2⟩ := argFt (hval 2 25 v2 rfl rfl) hf2 hw2
  refine (say_any f g h A0 A1 A2 B0 B1 B2 D0 D1 D2 c0 c1 c2 e0 e1 e2 x0 x1 x2 W ha0 ha1 ha2 sa0 sa1 sa2 wa0 wa1 wa2).mono fun e W' ⟨he, bel⟩ => ?_
  subst he
  exact ⟨_, rfl, _, _, _, [], _, [], hW', trodAll_mk1 (shut_bool Tryz.underlying4 _), (trodAll_cons_mk (Below.trod laidOut (by kernel_rfl) (of_decide_eq_true (by kernel_rfl)) k0 bel lt0) (trodAll_cons_mk (Below.trod laidOut (by kernel_rfl) (of_decide_eq_true (by kernel_rfl)) k1 bel lt1) (trodAll_cons_mk (Below.trod laidOut (by kernel_rfl) (of_decide_eq_true (by kernel_rfl)) k2 bel lt2) trodAll_mk0))), rfl, bel.frame _, fun h => by cases h⟩
theorem over : Rows.setsSayRow.holds Tryz.pinned (OpenSpec.ofChange Rows.setsSaySpec) :=
  OpenClaim.holds_of_wide 5 Tryz.f5 rfl rfl rfl rfl rfl rfl rfl ⟨rfl, rfl, rfl, rfl, rfl⟩ rfl rfl rfl rfl rfl (by kernel_rfl) Tryz.func5 (by kernel_rfl)
    (of_decide_eq_true (by kernel_rfl)) (by unfold Func.isWrapper; first | (rw [if_pos (by decide +kernel)]; kernel_rfl) | (rw [if_neg (by decide +kernel)]; exact ⟨rfl, rfl⟩))
    (fun os started H enc _ => lifted os started H enc)
theorem proved : Rows.SetsSaySaid := over
end Go.Proofs.YtldlenjfpjihdaaGreat.setsSay
namespace Go.Proofs.YtldlenjfpjihdaaGreat
theorem setsSay_holds : Rows.SetsSaySaid := setsSay.proved
end Go.Proofs.YtldlenjfpjihdaaGreat
end
