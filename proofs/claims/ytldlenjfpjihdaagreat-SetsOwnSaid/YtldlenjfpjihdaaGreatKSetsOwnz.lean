/- SetsOwn: the law returns true at every input, and its arguments read as before. Conditions: as the row has them. -/
import Derived.Test.YtldlenjfpjihdaaGreatKSetsOwn4
section
namespace Go.Proofs.YtldlenjfpjihdaaGreat.PS
open Go Go.RowKit Go.Proofs Go.Maps Go.WideMaps Go.Proofs.YtldlenjfpjihdaaGreatW.PrintWords Go.Proofs.YtldlenjfpjihdaaGreatW.PrintLast Go.Proofs.YtldlenjfpjihdaaGreatW.PrintMore
set_option linter.unusedVariables false
set_option linter.unusedSimpArgs false
theorem cell_al {w : World} {a : Addr} {v : Value} (h : w.cell? a = some v) (o : Obj) : (w.alloc o).cell? a = some v := ((below_alloc (Below.refl w.heap.size w) o).cell (World.block_lt_of_cell? _ _ h)).trans h
set_option maxHeartbeats 16000000 in
set_option maxRecDepth 100000 in
theorem own_any (f g : Ft) (A0 A1 A2 B0 B1 B2 : Option Addr) (a0 a1 a2 b0 b1 b2 : Nat) (w : World) (hf : FtR w A0 A1 A2 a0 a1 a2 f) (hg : FtR w B0 B1 B2 b0 b1 b2 g) (hfs : f.small) (hgs : g.small) (hfw : f.wfs) (hgw : g.wfs) :
    Calls Tryz.prog 6 #[.agg #[.slice A0 f.ps.length a0, .slice A1 f.ss.length a1, .slice A2 f.ws.length a2], .agg #[.slice B0 g.ps.length b0, .slice B1 g.ss.length b1, .slice B2 g.ws.length b2]] w fun e w' => e = .returned (.bool true) ∧ Below w.heap.size w w' := by
  generalize hW : (w.alloc (ftO A0 A1 A2 a0 a1 a2 f)).alloc (ftO B0 B1 B2 b0 b1 b2 g) = w1
  have hB1 : Below w.heap.size w w1 := by rw [← hW]; exact below_alloc (below_alloc (Below.refl _ _) _) _
  have d0 : w1.heap[w.heap.size]? = some (ftO A0 A1 A2 a0 a1 a2 f) := by rw [← hW]; exact heap_old (heap_new _ _)
  have d1 : w1.heap[w.heap.size + 1]? = some (ftO B0 B1 B2 b0 b1 b2 g) := by rw [← hW]; have := heap_new (w.alloc (ftO A0 A1 A2 a0 a1 a2 f)) (ftO B0 B1 B2 b0 b1 b2 g); rw [size_new] at this; exact this
  have HF := Aside0.mk (show ∀ W, Below w1.heap.size w1 W → FtV W (.agg #[.slice A0 f.ps.length a0, .slice A1 f.ss.length a1, .slice A2 f.ws.length a2]) f from fun W h => ⟨_, _, _, _, _, _, rfl, hf.below (below_step hB1 h)⟩)
  have HG := Aside0.mk (show ∀ W, Below w1.heap.size w1 W → FtV W (.agg #[.slice B0 g.ps.length b0, .slice B1 g.ss.length b1, .slice B2 g.ws.length b2]) g from fun W h => ⟨_, _, _, _, _, _, rfl, hg.below (below_step hB1 h)⟩)
  have HB1 := Aside0.mk hB1
  have D0 := Aside0.mk d0
  have D1 := Aside0.mk d1
  have HFs := Aside0.mk hfs
  have HGs := Aside0.mk hgs
  have HFw := Aside0.mk hfw
  have HGw := Aside0.mk hgw
  unfold ftO at hW D0 D1
  have HW := Aside0.mk hW
  clear hW hB1 d0 d1 hf hg hfs hgs hfw hgw
  generalize f.ps.length = m0 at *
  generalize f.ss.length = m1 at *
  generalize f.ws.length = m2 at *
  generalize g.ps.length = n0 at *
  generalize g.ss.length = n1 at *
  generalize g.ws.length = n2 at *
  go_enter Tryz.func6, Tryz.ntmps6
  --@A
  go_wp2_with fail
  rw [HW.out]
  clear HW
  refine own_reg (t2 := undef) (t3 := undef) (fun W h => copyL (HF.out W h) HFs.out) (fun W h => copyL (HG.out W h) HGs.out) D0.out D1.out (fun _ _ d _ _ h => by cases d <;> exact h) (fun w2 bx by_ vx vy y0 y1 hb hx hy => ?_)
  obtain ⟨C0, C1, C2, k0, k1, k2, c0, c1, c2, rfl, ex, hv⟩ := hx
  obtain ⟨G0, G1, G2, l0, l1, l2, g0, g1, g2, rfl, ey, hu⟩ := hy
  have HC2 := Aside0.mk hb
  have EX2 := Aside0.mk ex
  have EY2 := Aside0.mk ey
  have VX := Aside0.mk (show ∀ W, Below w2.heap.size w2 W → FtV W (.agg #[.slice C0 k0 c0, .slice C1 k1 c1, .slice C2 k2 c2]) f from fun W h => hv.below h)
  have VY := Aside0.mk (show ∀ W, Below w2.heap.size w2 W → FtV W (.agg #[.slice G0 l0 g0, .slice G1 l1 g1, .slice G2 l2 g2]) g from fun W h => hu.below h)
  clear hb ex ey hv hu
  --@B
  go_wp2_with fail
  go_loopg [7] 2 (fun gg s7 wr => ∃ k : Nat, s7 = .int .i64 k ∧ k ≤ 2 ∧ Aside0 (2 - k ≤ gg) ∧ Aside0 (Below w2.heap.size w2 wr))
  case atStart => exact ⟨0, rfl, by decide, ⟨Nat.le_refl _⟩, ⟨Below.refl _ _⟩⟩
  case round =>
    obtain ⟨w3, hwq⟩ : ∃ x, x = wr := ⟨_, rfl⟩
    subst hwq
    obtain ⟨rd, rfl, hrd, HM, HB3⟩ := hrel
    by_cases hlt : rd < 2
    · have hltz : (rd : Int) < 2 := by omega
      obtain ⟨p0, p1, p2, q0, q1, q2⟩ := six HB3.out EX2.out EY2.out
      --@C
      go_wp2_with fail
      refine (normS (VX.out w3 HB3.out) HFs.out HFw.out).mono ?_
      rintro e w4 ⟨v4, rfl, hs, hb⟩
      obtain ⟨N0, N1, N2, z0, z1, z2, x0, x1, x2, rfl, hsn⟩ := hs
      have SN := Aside0.mk hsn
      clear hsn p0 p1 p2 q0 q1 q2
      generalize hW5 : w4.alloc (.cells #[.slice N0 z0 x0, .slice N1 z1 x1, .slice N2 z2 x2] 25) = w5
      have hb5 : Below w4.heap.size w4 w5 := by rw [← hW5]; exact below_alloc (Below.refl _ _) _
      have EN := Aside0.mk (show w5.heap[w4.heap.size]? = some (.cells #[.slice N0 z0 x0, .slice N1 z1 x1, .slice N2 z2 x2] 25) by rw [← hW5]; exact heap_new _ _)
      have HB4 := Aside0.mk (below_step HB3.out hb)
      have HB5 := Aside0.mk (below_step HB4.out hb5)
      have J45 := Aside0.mk hb5
      have J34 := Aside0.mk hb
      have h6 := six HB5.out EX2.out EY2.out
      rw [← hW5] at h6
      obtain ⟨p0, p1, p2, q0, q1, q2⟩ := h6
      have HW5 := Aside0.mk hW5
      generalize checkS f = ck at *
      clear hb hb5 hW5
      --@D
      go_wp2_with fail
      rw [HW5.out]
      clear HW5 p0 p1 p2 q0 q1 q2
      refine (mergeS (VX.out w5 HB5.out) (VY.out w5 HB5.out) HFs.out HGs.out HFw.out HGw.out).mono ?_
      rintro e w6 ⟨v6, rfl, hs, hb⟩
      obtain ⟨M0, M1, M2, r0, r1, r2, u0, u1, u2, rfl, hsn⟩ := hs
      have SM := Aside0.mk hsn
      clear hsn
      generalize hW7 : w6.alloc (.cells #[.slice M0 r0 u0, .slice M1 r1 u1, .slice M2 r2 u2] 25) = w7
      have hb7 : Below w6.heap.size w6 w7 := by rw [← hW7]; exact below_alloc (Below.refl _ _) _
      have EM := Aside0.mk (show w7.heap[w6.heap.size]? = some (.cells #[.slice M0 r0 u0, .slice M1 r1 u1, .slice M2 r2 u2] 25) by rw [← hW7]; exact heap_new _ _)
      have HB6 := Aside0.mk (below_step HB5.out hb)
      have HB7 := Aside0.mk (below_step HB6.out hb7)
      have J67 := Aside0.mk hb7
      have J57 := Aside0.mk (below_step hb hb7)
      have J56 := Aside0.mk hb
      have h6 := six HB7.out EX2.out EY2.out
      rw [← hW7] at h6
      obtain ⟨p0, p1, p2, q0, q1, q2⟩ := h6
      have HW7 := Aside0.mk hW7
      generalize mergeC f g = mk at *
      clear hb hb7 hW7
      --@E
      go_wp2_with fail
      rw [HW7.out]
      clear HW7 p0 p1 p2 q0 q1 q2
      refine (withoutS (VX.out w7 HB7.out) HFs.out 1).mono ?_
      rintro e w8 ⟨v8, rfl, hs, hb⟩
      obtain ⟨W0, W1, W2, s0, s1, s2, t0, t1, t2, rfl, hsn⟩ := hs
      have SW := Aside0.mk hsn
      clear hsn
      generalize hW9 : (w8.alloc (.cells #[.slice W0 s0 t0, .slice W1 s1 t1, .slice W2 s2 t2] 25)).alloc (.cells #[.slice N0 z0 x0, .slice N1 z1 x1, .slice N2 z2 x2, .slice M0 r0 u0, .slice M1 r1 u1, .slice M2 r2 u2, .slice W0 s0 t0, .slice W1 s1 t1, .slice W2 s2 t2] 25) = w9
      have hb9 : Below w8.heap.size w8 w9 := by rw [← hW9]; exact below_alloc (below_alloc (Below.refl _ _) _) _
      have EL : w9.heap[w8.heap.size + 1]? = some (.cells #[.slice N0 z0 x0, .slice N1 z1 x1, .slice N2 z2 x2, .slice M0 r0 u0, .slice M1 r1 u1, .slice M2 r2 u2, .slice W0 s0 t0, .slice W1 s1 t1, .slice W2 s2 t2] 25 (0, 0)) := by rw [← hW9]; have := heap_new (w8.alloc (.cells #[.slice W0 s0 t0, .slice W1 s1 t1, .slice W2 s2 t2] 25)) (.cells #[.slice N0 z0 x0, .slice N1 z1 x1, .slice N2 z2 x2, .slice M0 r0 u0, .slice M1 r1 u1, .slice M2 r2 u2, .slice W0 s0 t0, .slice W1 s1 t1, .slice W2 s2 t2] 25); rw [size_new] at this; exact this
      have J79 := below_step hb hb9
      have J69 := below_step J67.out J79
      have J49 := below_step J45.out (below_step J57.out J79)
      have J39 := Aside0.mk (below_step J34.out J49)
      have hR := Rows9.of (lo := w3.heap.size) (hi := w8.heap.size + 1) (c0 := x0) (c1 := x1) (c2 := x2) (d0 := u0) (d1 := u1) (d2 := u2) (e0 := t0) (e1 := t1) (e2 := t2) SN.out SM.out SW.out J49 J69 hb9 (Nat.le_refl _) (Nat.le_trans J34.out.size J45.out.size) (Nat.le_trans J34.out.size (Nat.le_trans J45.out.size J57.out.size)) (by have := J45.out.size; have := J57.out.size; have := hb.size; omega) (by have := J67.out.size; have := hb.size; omega) (by omega)
      have HR9 := Aside0.mk hR
      have HB9 := Aside0.mk (below_step HB7.out J79)
      have hlo : w3.heap.size ≤ w8.heap.size + 1 := by have := J34.out.size; have := J45.out.size; have := J57.out.size; have := hb.size; omega
      have HLo := Aside0.mk hlo
      have pn := six (below_step J57.out hb) EN.out EN.out
      have pm := six hb EM.out EM.out
      obtain ⟨pn0, pn1, pn2, -, -, -⟩ := pn
      obtain ⟨pm0, pm1, pm2, -, -, -⟩ := pm
      have pn0 := cell_al pn0 (.cells #[.slice W0 s0 t0, .slice W1 s1 t1, .slice W2 s2 t2] 25)
      have pn1 := cell_al pn1 (.cells #[.slice W0 s0 t0, .slice W1 s1 t1, .slice W2 s2 t2] 25)
      have pn2 := cell_al pn2 (.cells #[.slice W0 s0 t0, .slice W1 s1 t1, .slice W2 s2 t2] 25)
      have pm0 := cell_al pm0 (.cells #[.slice W0 s0 t0, .slice W1 s1 t1, .slice W2 s2 t2] 25)
      have pm1 := cell_al pm1 (.cells #[.slice W0 s0 t0, .slice W1 s1 t1, .slice W2 s2 t2] 25)
      have pm2 := cell_al pm2 (.cells #[.slice W0 s0 t0, .slice W1 s1 t1, .slice W2 s2 t2] 25)
      have HW9 := Aside0.mk hW9
      have HEL := Aside0.mk EL
      clear hb hb9 hW9 EL J79 J69 J49 hR hlo
      --@F
      go_wp2_with fail
      --@G
      rw [HW9.out]
      clear HW9 pn0 pn1 pn2 pm0 pm1 pm2
      obtain ⟨bl, hbl⟩ : ∃ b, b = w8.heap.size + 1 := ⟨_, rfl⟩
      rw [← hbl] at HEL HR9 HLo ⊢
      clear hbl
      have hsz : (#[.slice N0 z0 x0, .slice N1 z1 x1, .slice N2 z2 x2, .slice M0 r0 u0, .slice M1 r1 u1, .slice M2 r2 u2, .slice W0 s0 t0, .slice W1 s1 t1, .slice W2 s2 t2] : Array Value).size = 9 := rfl
      generalize (#[.slice N0 z0 x0, .slice N1 z1 x1, .slice N2 z2 x2, .slice M0 r0 u0, .slice M1 r1 u1, .slice M2 r2 u2, .slice W0 s0 t0, .slice W1 s1 t1, .slice W2 s2 t2] : Array Value) = cs at HEL HR9 hsz
      clear SN SM SW EN EM J34 J45 J56 J57 J67
      --@H
      go_loopg [14] 3 (fun gg s14 wr => ∃ i : Nat, s14 = .int .i64 i ∧ i ≤ 3 ∧ Aside0 (3 - i ≤ gg) ∧ Aside0 (Below w3.heap.size w3 wr) ∧ Aside0 (wr.heap[bl]? = some (.cells cs 25 (0, 0))) ∧ Aside0 (Rows9 wr w3.heap.size bl cs))
      case atStart => exact ⟨0, rfl, by decide, ⟨Nat.le_refl _⟩, J39, HEL, HR9⟩
      case round =>
        clear J39 HEL HR9
        obtain ⟨wi, hwq⟩ : ∃ x, x = wr := ⟨_, rfl⟩
        subst hwq
        obtain ⟨i, rfl, hi, HMi, HBi, HEi, HRi⟩ := hrel
        by_cases hlti : i < 3
        · have hltiz : (i : Int) < 3 := by omega
          --@I
          go_wp2_with fail
          --@L0
          obtain ⟨A, n, c, hc, hn, hS⟩ := HRi.out i 0 hlti (by decide)
          go_loopg [15] n (fun gg s15 wr => ∃ k : Nat, s15 = .int .i64 k ∧ k ≤ n ∧ Aside0 (n - k ≤ gg) ∧ Aside0 (Below w3.heap.size w3 wr) ∧ Aside0 (wr.heap[bl]? = some (.cells cs 25 (0, 0))) ∧ Aside0 (Rows9 wr w3.heap.size bl cs))
          case atStart => exact ⟨0, rfl, Nat.zero_le _, ⟨Nat.le_refl _⟩, HBi, HEi, HRi⟩
          case round =>
            clear HBi HEi HRi hS
            obtain ⟨wj, hwq⟩ : ∃ x, x = wr := ⟨_, rfl⟩
            subst hwq
            obtain ⟨k, rfl, hk, HMj, HBi, HEi, HRi⟩ := hrel
            have hcj : wj.cell? ⟨bl, i * 3, none⟩ = some (.slice A n c) := (cell_of HEi.out _).trans hc
            by_cases hltk : k < n
            · have hltkz : (k : Int) < (n : Int) := by omega
              obtain ⟨A', n', c', hc', hn', hS⟩ := HRi.out i 0 hlti (by decide)
              obtain ⟨rfl, rfl, rfl⟩ : A' = A ∧ n' = n ∧ c' = c := by rw [hc] at hc'; simpa [eq_comm] using hc'
              obtain ⟨gb, rfl, hg1, hg2, hcl⟩ := hS (by omega)
              obtain ⟨⟨u, hu⟩, hfz⟩ := hcl k hltk 2 (by decide)
              simp only [if_neg, reduceIte, Nat.reduceEqDiff] at hu hfz
              have HG1 := Aside0.mk hg1
              have HG2 := Aside0.mk hg2
              clear hc' hn' hcl hg1 hg2
              --@S0
              go_wp2
              go_roundg (n' - (k + 1))
              case measure => have := HMj.out; omega
              case rel => exact ⟨k + 1, by go_num, hltk, ⟨Nat.le_refl _⟩, ⟨HBi.out.setCell (p := ⟨gb, k * 3 + 2, none⟩) HG1.out _⟩, ⟨(Below.heap_setCell _ ⟨gb, k * 3 + 2, none⟩ _ _ (by have := HG2.out; show bl ≠ gb; omega)).trans HEi.out⟩, ⟨HRi.out.set _ _⟩⟩
            · have hltkz : ¬ (k : Int) < (n : Int) := by omega
              obtain rfl : k = n := by omega
              --@X0
              go_wp2_with fail
              have hi_ := hi
              clear hcj hc hn hltk hltkz HMj hi_
              --@L1
              obtain ⟨A, n, c, hc, hn, hS⟩ := HRi.out i 1 hlti (by decide)
              go_loopg [16] n (fun gg s16 wr => ∃ k : Nat, s16 = .int .i64 k ∧ k ≤ n ∧ Aside0 (n - k ≤ gg) ∧ Aside0 (Below w3.heap.size w3 wr) ∧ Aside0 (wr.heap[bl]? = some (.cells cs 25 (0, 0))) ∧ Aside0 (Rows9 wr w3.heap.size bl cs))
              case atStart => exact ⟨0, rfl, Nat.zero_le _, ⟨Nat.le_refl _⟩, HBi, HEi, HRi⟩
              case round =>
                clear HBi HEi HRi hS
                obtain ⟨wj, hwq⟩ : ∃ x, x = wr := ⟨_, rfl⟩
                subst hwq
                obtain ⟨k, rfl, hk, HMj, HBi, HEi, HRi⟩ := hrel
                have hcj : wj.cell? ⟨bl, i * 3 + 1, none⟩ = some (.slice A n c) := (cell_of HEi.out _).trans hc
                by_cases hltk : k < n
                · have hltkz : (k : Int) < (n : Int) := by omega
                  obtain ⟨A', n', c', hc', hn', hS⟩ := HRi.out i 1 hlti (by decide)
                  obtain ⟨rfl, rfl, rfl⟩ : A' = A ∧ n' = n ∧ c' = c := by rw [hc] at hc'; simpa [eq_comm] using hc'
                  obtain ⟨gb, rfl, hg1, hg2, hcl⟩ := hS (by omega)
                  obtain ⟨⟨u, hu⟩, hfz⟩ := hcl k hltk 2 (by decide)
                  simp only [reduceIte] at hu hfz
                  have HG1 := Aside0.mk hg1
                  have HG2 := Aside0.mk hg2
                  clear hc' hn' hcl hg1 hg2
                  --@S1
                  go_wp2
                  go_roundg (n' - (k + 1))
                  case measure => have := HMj.out; omega
                  case rel => exact ⟨k + 1, by go_num, hltk, ⟨Nat.le_refl _⟩, ⟨HBi.out.setCell (p := ⟨gb, k * 5 + 2, none⟩) HG1.out _⟩, ⟨(Below.heap_setCell _ ⟨gb, k * 5 + 2, none⟩ _ _ (by have := HG2.out; show bl ≠ gb; omega)).trans HEi.out⟩, ⟨HRi.out.set _ _⟩⟩
                · have hltkz : ¬ (k : Int) < (n : Int) := by omega
                  obtain rfl : k = n := by omega
                  --@X1
                  go_wp2_with fail
                  have hi_ := hi
                  clear hcj hc hn hltk hltkz HMj hi_
                  --@L2
                  obtain ⟨A, n, c, hc, hn, hS⟩ := HRi.out i 2 hlti (by decide)
                  go_loopg [17] n (fun gg s17 wr => ∃ k : Nat, s17 = .int .i64 k ∧ k ≤ n ∧ Aside0 (n - k ≤ gg) ∧ Aside0 (Below w3.heap.size w3 wr) ∧ Aside0 (wr.heap[bl]? = some (.cells cs 25 (0, 0))) ∧ Aside0 (Rows9 wr w3.heap.size bl cs))
                  case atStart => exact ⟨0, rfl, Nat.zero_le _, ⟨Nat.le_refl _⟩, HBi, HEi, HRi⟩
                  case round =>
                    clear HBi HEi HRi hS
                    obtain ⟨wj, hwq⟩ : ∃ x, x = wr := ⟨_, rfl⟩
                    subst hwq
                    obtain ⟨k, rfl, hk, HMj, HBi, HEi, HRi⟩ := hrel
                    have hcj : wj.cell? ⟨bl, i * 3 + 2, none⟩ = some (.slice A n c) := (cell_of HEi.out _).trans hc
                    by_cases hltk : k < n
                    · have hltkz : (k : Int) < (n : Int) := by omega
                      obtain ⟨A', n', c', hc', hn', hS⟩ := HRi.out i 2 hlti (by decide)
                      obtain ⟨rfl, rfl, rfl⟩ : A' = A ∧ n' = n ∧ c' = c := by rw [hc] at hc'; simpa [eq_comm] using hc'
                      obtain ⟨gb, rfl, hg1, hg2, hcl⟩ := hS (by omega)
                      obtain ⟨⟨u, hu⟩, hfz⟩ := hcl k hltk 2 (by decide)
                      simp only [if_neg, reduceIte, Nat.reduceEqDiff] at hu hfz
                      have HG1 := Aside0.mk hg1
                      have HG2 := Aside0.mk hg2
                      clear hc' hn' hcl hg1 hg2
                      --@S2
                      go_wp2
                      go_roundg (n' - (k + 1))
                      case measure => have := HMj.out; omega
                      case rel => exact ⟨k + 1, by go_num, hltk, ⟨Nat.le_refl _⟩, ⟨HBi.out.setCell (p := ⟨gb, k * 3 + 2, none⟩) HG1.out _⟩, ⟨(Below.heap_setCell _ ⟨gb, k * 3 + 2, none⟩ _ _ (by have := HG2.out; show bl ≠ gb; omega)).trans HEi.out⟩, ⟨HRi.out.set _ _⟩⟩
                    · have hltkz : ¬ (k : Int) < (n : Int) := by omega
                      obtain rfl : k = n := by omega
                      --@X2
                      go_wp2_with fail
                      clear hcj hc hn hltk hltkz HMj
                      --@L
                      go_wp2
                      go_roundg (3 - (i + 1))
                      case measure => have := HMi.out; omega
                      case rel => exact ⟨i + 1, by go_num, hlti, ⟨Nat.le_refl _⟩, HBi, HEi, HRi⟩
        · have hltiz : ¬ (i : Int) < 3 := by omega
          have HBf := Aside0.mk (below_step HB3.out HBi.out)
          obtain ⟨p0, p1, p2, q0, q1, q2⟩ := six HBf.out EX2.out EY2.out
          --@M
          go_wp2_with fail
          refine (clashV (VX.out wi HBf.out) (VY.out wi HBf.out) HFs.out HFw.out.1 HGw.out.1).mono ?_
          rintro e wa ⟨rfl, hb⟩
          have HBa := Aside0.mk (below_step HBf.out hb)
          clear hb p0 p1 p2 q0 q1 q2
          obtain ⟨p0, p1, p2, q0, q1, q2⟩ := six HBa.out EX2.out EY2.out
          generalize tellV (clashSS f g) = tv at *
          --@N
          go_wp2_with fail
          refine (bothV (VX.out wa HBa.out) (VY.out wa HBa.out) HGs.out HFw.out.1 HGw.out.1).mono ?_
          rintro e wb ⟨rfl, hb⟩
          have HBb := Aside0.mk (below_step HBa.out hb)
          clear hb p0 p1 p2 q0 q1 q2
          obtain ⟨p0, p1, p2, q0, q1, q2⟩ := six HBb.out EX2.out EY2.out
          have HCb := Aside0.mk (below_step HC2.out HBb.out)
          obtain ⟨x0, x1, x2, y0, y1, y2⟩ := six HCb.out D0.out D1.out
          generalize tellV (bothSS f.ws g.ws) = tb at *
          --@O
          go_wp2_with fail
          refine (sameV (VX.out wb HBb.out) (HF.out wb HCb.out) HFs.out).mono ?_
          rintro e wc ⟨rfl, hb⟩
          have HBc := Aside0.mk (below_step HBb.out hb)
          have HCc := Aside0.mk (below_step HCb.out hb)
          clear hb p0 p1 p2 q0 q1 q2 x0 x1 x2 y0 y1 y2
          obtain ⟨p0, p1, p2, q0, q1, q2⟩ := six HBc.out EX2.out EY2.out
          obtain ⟨x0, x1, x2, y0, y1, y2⟩ := six HCc.out D0.out D1.out
          --@P
          go_wp2_with fail
          refine (sameV (VY.out wc HBc.out) (HG.out wc HCc.out) HGs.out).mono ?_
          rintro e wd ⟨rfl, hb⟩
          have HBd := Aside0.mk (below_step HBc.out hb)
          clear hb p0 p1 p2 q0 q1 q2 x0 x1 x2 y0 y1 y2
          --@Q
          go_wp2
          go_roundg (2 - (rd + 1))
          case measure => have := HM.out; omega
          case rel => exact ⟨rd + 1, by go_num, hlt, ⟨Nat.le_refl _⟩, HBd⟩
    · have hltz : ¬ (rd : Int) < 2 := by omega
      --@R
      go_wp2_with fail
      refine (awake_any w3).mono ?_
      rintro e wz ⟨rfl, hb⟩
      have HBz := Aside0.mk (below_step (below_step HB1.out (below_step HC2.out HB3.out)) hb)
      clear hb
      go_wp2
      go_ret
      exact ⟨rfl, HBz.out⟩
end Go.Proofs.YtldlenjfpjihdaaGreat.PS
end
section
namespace Go.Proofs.YtldlenjfpjihdaaGreat.setsOwn
open Go.ChangeShapes Go.WideShapes Go.ChangeAt Go.RowKit Go.Proofs.YtldlenjfpjihdaaGreatW.PrintWords Go.Proofs.YtldlenjfpjihdaaGreat.PS Go.Proofs.YtldlenjfpjihdaaGreat.OpenK
set_option linter.unusedVariables false
theorem own : ownKnob Tryz.prog.godebug = none := by kernel_rfl
theorem laidOut : laidOutB Tryz.prog = true := by kernel_rfl
set_option maxRecDepth 100000 in
theorem lifted (os : Os) (started : os.Started) (H : Type) (enc : TypeId × Value → H) :
    ReturnsInHanded {} Tryz.checked os 6 .any (Rows.setsOwnSpec.pre6 enc Tryz.prog Tryz.f6 Rows.setsOwnRow.domain false) (Rows.setsOwnSpec.post enc Tryz.prog Tryz.f6 false true false false) := by
  refine returnsInHanded_of_change_sized (C := Tryz.checked) own started (by kernel_rfl) Tryz.func6
    (ChangeSpec.witness6 (enc := enc) (C := Tryz.checked) false ⟨#[], #[.agg #[.slice none 0 0, .slice none 0 0, .slice none 0 0], .agg #[.slice none 0 0, .slice none 0 0, .slice none 0 0]], []⟩ 8 (by kernel_rfl) (by kernel_rfl) (by kernel_rfl) (by kernel_rfl)) ?_
  intro W base args ds gs before hval0 hW hcnd hsz0 _
  have hsz : (DataW.weightsEach Tryz.prog (Tryz.f6.params.toList ++ Rows.setsOwnSpec.plain.varTypes Tryz.prog) (ds ++ gs)).all (· ≤ reachBytes) = true := hsz0
  have hval : ∀ (j : Nat) t v, Tryz.f6.params[j]? = some t → args[j]? = some v → Value.okWide Tryz.prog W .any base t v := @hval0
  have hW' := hW
  obtain ⟨p, q, hA0, hV, rfl, hfz, hnd⟩ := hW
  have hA : DataW.TrodAll enc Tryz.prog W 0 (fun _ => true) true Tryz.f6.params.toList args.toList ds p := hA0
  rw [Tryz.params6] at hA hval hsz
  obtain ⟨v0, vs0, d0, ds0, p0, q0, hargs, rfl, rfl, h0, r0⟩ := trodAll_cons hA
  obtain ⟨v1, vs1, d1, ds1, p1, q1, rfl, rfl, rfl, h1, r1⟩ := trodAll_cons r0
  obtain ⟨rfl, rfl, rfl⟩ := trodAll_nil r1
  obtain rfl : args = #[v0, v1] := by cases args; simp_all
  obtain ⟨rfl, rfl⟩ := trodVars_none hV
  have hw : (DataW.weightsEach Tryz.prog [25, 25] [d0, d1]).all (· ≤ reachBytes) = true := hsz
  simp only [DataW.weightsEach, all_append_iff] at hw
  obtain ⟨hw0, hw1, _⟩ := hw
  have k0 := h0
  have lt0 : ∀ x ∈ p0, x.block < W.heap.size := by obtain ⟨m, hm⟩ := k0; exact DataW.trod_lt m _ _ _ hm
  obtain ⟨fuel0, hf0⟩ := h0
  have k1 := h1
  have lt1 : ∀ x ∈ p1, x.block < W.heap.size := by obtain ⟨m, hm⟩ := k1; exact DataW.trod_lt m _ _ _ hm
  obtain ⟨fuel1, hf1⟩ := h1
  obtain ⟨A0, A1, A2, c0, c1, c2, f, rfl, ha0, sa0, wa0⟩ := argFt (hval 0 25 v0 rfl rfl) hf0 hw0
  obtain ⟨B0, B1, B2, e0, e1, e2, g, rfl, ha1, sa1, wa1⟩ := argFt (hval 1 25 v1 rfl rfl) hf1 hw1
  refine (own_any f g A0 A1 A2 B0 B1 B2 c0 c1 c2 e0 e1 e2 W ha0 ha1 sa0 sa1 wa0 wa1).mono fun e W' ⟨he, bel⟩ => ?_
  subst he
  exact ⟨_, rfl, _, _, _, [], _, [], hW', trodAll_mk1 (shut_bool Tryz.underlying4 _), (trodAll_cons_mk (Below.trod laidOut (by kernel_rfl) (of_decide_eq_true (by kernel_rfl)) k0 bel lt0) (trodAll_cons_mk (Below.trod laidOut (by kernel_rfl) (of_decide_eq_true (by kernel_rfl)) k1 bel lt1) trodAll_mk0)), rfl, bel.frame _, fun h => by cases h⟩
theorem over : Rows.setsOwnRow.holds Tryz.pinned (OpenSpec.ofChange Rows.setsOwnSpec) :=
  OpenClaim.holds_of_wide 6 Tryz.f6 rfl rfl rfl rfl rfl rfl rfl ⟨rfl, rfl, rfl, rfl, rfl⟩ rfl rfl rfl rfl rfl (by kernel_rfl) Tryz.func6 (by kernel_rfl)
    (of_decide_eq_true (by kernel_rfl)) (by unfold Func.isWrapper; first | (rw [if_pos (by decide +kernel)]; kernel_rfl) | (rw [if_neg (by decide +kernel)]; exact ⟨rfl, rfl⟩))
    (fun os started H enc _ => lifted os started H enc)
theorem proved : Rows.SetsOwnSaid := over
end Go.Proofs.YtldlenjfpjihdaaGreat.setsOwn
namespace Go.Proofs.YtldlenjfpjihdaaGreat
theorem setsOwn_holds : Rows.SetsOwnSaid := setsOwn.proved
end Go.Proofs.YtldlenjfpjihdaaGreat
end
