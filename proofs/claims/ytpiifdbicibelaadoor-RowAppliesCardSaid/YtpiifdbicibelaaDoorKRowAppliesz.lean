/- RowApplies: the law returns true at every input, and its arguments read as before. Conditions: as the row has them (the listed tables as the program's text lays them). -/
import Derived.Test.YtpiifdbicibelaaDoorKRowApplies4
section
namespace Go.Proofs.YtpiifdbicibelaaDoor.Pure
open Go.RowKit Go.Proofs Go.Proofs.YtpiifdbicibelaaDoorW.PrintWords Go.Proofs.YtpiifdbicibelaaDoorW.PrintLast Go.Proofs.YtpiifdbicibelaaDoorW.PrintMore Go.Proofs.YtpiifdbicibelaaDoor.PA Go.Proofs.YtpiifdbicibelaaDoor.OpenK
set_option linter.unusedVariables false
set_option linter.unusedSimpArgs false
theorem kinds_ok {a : ByteArray} {c : List S105} {d : List Int} {e : List S115} {f : List S139} (h : checkT a c d e f = 0) : ∀ x ∈ c, 1 ≤ x.f1 ∧ x.f1 ≤ 5 := fun x hx => checkT_kind h _ (List.mem_map.2 ⟨x, hx, rfl⟩)
end Go.Proofs.YtpiifdbicibelaaDoor.Pure
end
section
namespace Go.Proofs.YtpiifdbicibelaaDoor.PA
open Go.RowKit Go.Proofs.YtpiifdbicibelaaDoorW.PrintWords Go.Proofs.YtpiifdbicibelaaDoorW.PrintLast Go.Proofs.YtpiifdbicibelaaDoorW.PrintMore
attribute [local go_sem] max2_int min2_int max_two min_two max_three min_three max_four min_four
set_option linter.unusedVariables false
set_option linter.unusedSimpArgs false
mutual
def row_Apply.l0 : Nat → List (S50) → ByteArray → List (S50) → Int → ByteArray → List (S105) → List Int → List (S115) → List (S139) → Option ((List (S50)) × Int)
 | 0, _, _, _, _, _, _, _, _, _ => none
 | k + 1, x1, x2, x9, x10, x882000, x882001, x882002, x882003, x882004 => if x2.toList = ([] : List UInt8) then (some (x9, 0)) else ((row_varint.f k x2).bind fun bt889 => (if bt889.2.2 = true then (row_Apply.j1 k x1 x9 x10 bt889.1 bt889.2.1 (decide (bt889.1 ≥ (IntKind.u64.wrap (wrap64 ((x1.length : Int) - x10))))) x882000 x882001 x882002 x882003 x882004) else (row_Apply.j1 k x1 x9 x10 bt889.1 bt889.2.1 true x882000 x882001 x882002 x882003 x882004)))
def row_Apply.j1 : Nat → List (S50) → List (S50) → Int → Int → ByteArray → Bool → ByteArray → List (S105) → List Int → List (S115) → List (S139) → Option ((List (S50)) × Int)
 | 0, _, _, _, _, _, _, _, _, _, _, _ => none
 | k + 1, x1, x9, x10, x11, x12, x46, x882000, x882001, x882002, x882003, x882004 => if x46 = true then (some (([] : List (S50)), 41)) else (if 0 ≤ (wrap64 (x10 + (wrap64 (x11)))) then (if (wrap64 (x10 + (wrap64 (x11)))) ≤ (wrap64 ((wrap64 (x10 + (wrap64 (x11)))) + 1)) then (if (wrap64 ((wrap64 (x10 + (wrap64 (x11)))) + 1)) ≤ (x882001.length : Int) then ((row_decode.f k ((x882001.take ((wrap64 ((wrap64 (x10 + (wrap64 (x11)))) + 1)) : Int).toNat).drop ((wrap64 (x10 + (wrap64 (x11)))) : Int).toNat) x12).bind fun bt896 => (if bt896.2.2 = true then (if 0 < (bt896.1.length : Int) then (if (wrap64 (x10 + (wrap64 (x11)))) < (x1.length : Int) then ((row_same.f ((rd_T50 bt896.1 0).f0) ((rd_T50 bt896.1 0).f1) ((rd_T50 bt896.1 0).f2) ((rd_T50 bt896.1 0).f3) ((rd_T50 x1 (wrap64 (x10 + (wrap64 (x11))))).f0) ((rd_T50 x1 (wrap64 (x10 + (wrap64 (x11))))).f1) ((rd_T50 x1 (wrap64 (x10 + (wrap64 (x11))))).f2) ((rd_T50 x1 (wrap64 (x10 + (wrap64 (x11))))).f3)).bind fun t903 => (if t903 = true then (some (([] : List (S50)), 41)) else (if (wrap64 (x10 + (wrap64 (x11)))) < (x9.length : Int) then (row_Apply.l0 k x1 bt896.2.1 (x9.set ((wrap64 (x10 + (wrap64 (x11)))) : Int).toNat (⟨(rd_T50 bt896.1 0).f0, (rd_T50 bt896.1 0).f1, (rd_T50 bt896.1 0).f2, (rd_T50 bt896.1 0).f3⟩ : S50)) (wrap64 ((wrap64 (x10 + (wrap64 (x11)))) + 1)) x882000 x882001 x882002 x882003 x882004) else (none)))) else (none)) else (none)) else (some (([] : List (S50)), 41)))) else (none)) else (none)) else (none))
end
def row_Apply.f (k : Nat) (a0_0 : ByteArray) (l0_1 : List (S105)) (l0_2 : List Int) (l0_3 : List (S115)) (l0_4 : List (S139)) (l1 : List (S50)) (a2 : ByteArray) : Option ((List (S50)) × Int) := (schema_Admits.f a0_0 l0_1 l0_2 l0_3 l0_4 l1).bind fun t882 => (if t882 = 0 then (if (a2.size : Int) > 65536 then (some (([] : List (S50)), 3)) else ((some (([] : List (S50)) : List (S50))).bind fun y883 => (if y883.length + l1.length < 3518437208883 then (row_Apply.l0 k l1 a2 (y883 ++ l1) 0 a0_0 l0_1 l0_2 l0_3 l0_4) else (none)))) else (some (([] : List (S50)), t882)))
def row_Apply.T14 : Bool × List (List Nat × List Nat) := (true, [([], []), ([0], [0]), ([1], [1]), ([2], [2]), ([3, 2], [2, 3]), ([4, 2], [2, 4]), ([2], [2]), ([2], [2]), ([6, 7, 2], [2, 6, 7]), ([8, 2], [2, 8]), ([5, 9, 2, 2], [2, 5, 9]), ([2, 10], [2, 10])])
def row_Apply.B14 : List Nat := [0, 1, 3, 7, 15, 31, 7, 7, 199, 455, 1023, 2047]
theorem row_Apply.tab14 : rtab .any (opsOf Tryd.f60 14) = row_Apply.T14 := by kernel_rfl
theorem row_Apply.bits14 : waitsOk row_Apply.T14.2 row_Apply.B14 = true := by kernel_rfl
set_option maxHeartbeats 8000000 in
set_option maxRecDepth 100000 in
theorem row_Apply.calls (k : Nat) (a0_0 : ByteArray) (A0_1 : Option Addr) (c0_1 : Nat) (l0_1 : List (S105)) (A0_2 : Option Addr) (c0_2 : Nat) (l0_2 : List Int) (A0_3 : Option Addr) (c0_3 : Nat) (l0_3 : List (S115)) (A0_4 : Option Addr) (c0_4 : Nat) (l0_4 : List (S139)) (A1 : Option Addr) (c1 : Nat) (l1 : List (S50)) (a2 : ByteArray) (r1 : List (S50)) (r2 : Int) (w : World) (hr0_1 : Kd.C k105 w A0_1 l0_1.length l0_1) (hc0_1 : l0_1.length ≤ c0_1) (hr0_2 : Kd.C (Kd.int .i64) w A0_2 l0_2.length l0_2) (hc0_2 : l0_2.length ≤ c0_2) (hr0_3 : Kd.C k115 w A0_3 l0_3.length l0_3) (hc0_3 : l0_3.length ≤ c0_3) (hr0_4 : Kd.C k139 w A0_4 l0_4.length l0_4) (hc0_4 : l0_4.length ≤ c0_4) (hr1 : Kd.C k50 w A1 l1.length l1) (hc1 : l1.length ≤ c1) (hG : Glob w) (h : row_Apply.f k a0_0 l0_1 l0_2 l0_3 l0_4 l1 a2 = some (r1, r2)) :
  Calls Tryd.prog 60 #[.agg #[.string a0_0, .slice A0_1 l0_1.length c0_1, .slice A0_2 l0_2.length c0_2, .slice A0_3 l0_3.length c0_3, .slice A0_4 l0_4.length c0_4], .slice A1 l1.length c1, .string a2] w fun e w' => ∃ v0_ : Value, e = .returned (.tuple #[v0_, .int .i64 r2]) ∧ Kd.R k50 50 w' w.heap.size (fun _ => True) v0_ r1 ∧ Below w.heap.size w w' := by
 have hu65 := Tryd.underlying65
 have hu50 := Tryd.underlying50
 have HR0_1 := am hr0_1
 have HC0_1 := am hc0_1
 clear hr0_1 hc0_1
 have HR0_2 := am hr0_2
 have HC0_2 := am hc0_2
 clear hr0_2 hc0_2
 have HR0_3 := am hr0_3
 have HC0_3 := am hc0_3
 clear hr0_3 hc0_3
 have HR0_4 := am hr0_4
 have HC0_4 := am hc0_4
 clear hr0_4 hc0_4
 have HR1 := am hr1
 have HC1 := am hc1
 clear hr1 hc1
 have HG := am hG
 clear hG
 have HB := am (Below.refl w.heap.size w)
 have H : ((schema_Admits.f a0_0 l0_1 l0_2 l0_3 l0_4 l1).bind fun t882 => (if t882 = 0 then (if (a2.size : Int) > 65536 then (some (([] : List (S50)), 3)) else ((some (([] : List (S50)) : List (S50))).bind fun y883 => (if y883.length + l1.length < 3518437208883 then (row_Apply.l0 k l1 a2 (y883 ++ l1) 0 a0_0 l0_1 l0_2 l0_3 l0_4) else (none)))) else (some (([] : List (S50)), t882)))) = some (r1, r2) := h
 clear h
 replace H := Option.bind_eq_some_iff.mp H
 obtain ⟨t882, A40, H⟩ := H
 replace H : (if t882 = 0 then (if (a2.size : Int) > 65536 then (some (([] : List (S50)), 3)) else ((some (([] : List (S50)) : List (S50))).bind fun y883 => (if y883.length + l1.length < 3518437208883 then (row_Apply.l0 k l1 a2 (y883 ++ l1) 0 a0_0 l0_1 l0_2 l0_3 l0_4) else (none)))) else (some (([] : List (S50)), t882))) = some (r1, r2) := H
 have A4 := am A40
 clear A40
 by_cases c5 : t882 = 0
 ·rw [if_pos c5] at H
  have c5b0 : (t882 == 0) = true := beq_iff_eq.mpr c5
  have c5b1 : (t882 != 0) = false := bne_eq_false_iff_eq.mpr c5
  clear c5
  by_cases c6 : (a2.size : Int) > 65536
  ·rw [if_pos c6] at H
   have c6b0 : decide (65536 < (a2.size : Int)) = true := decide_eq_true c6
   have c6b1 : decide (65536 < a2.size) = true := decide_eq_true (by omega)
   clear c6
   simp only [Option.some.injEq, Prod.mk.injEq] at H
   obtain ⟨rfl, rfl⟩ := H
   go_enter Tryd.func60, Tryd.ntmps60
   go_wp2_with (first | ((with_reducible refine gate_dst (N := 3) rfl ?_); (try (refine gate_guard (by rfl) ?_; dsimp only)); refine box_event rfl (N := 3) rfl (cs := #[.string a0_0, .slice A0_1 l0_1.length c0_1, .slice A0_2 l0_2.length c0_2, .slice A0_3 l0_3.length c0_3, .slice A0_4 l0_4.length c0_4]) (t := 65) gs ?_; intro gb881 hg w7 hbox hb; have BK881 := am (hbox); have GW881 := gw hg HB; have GE881 := gw hg HB; replace HB := sb HB hb; clear hb hbox hg; obtain ⟨Z8_0, Z8_1, Z8_2, Z8_3, Z8_4, Y8_0, Y8_1, Y8_2, Y8_3, Y8_4⟩ := bq5 BK881) | ((with_reducible refine gate_callee (f := 83) rfl ?_); refine goesL_ (some 18) rfl rfl Tryd.func83 (by kernel_rfl) rfl #[.agg #[.string a0_0, .slice A0_1 l0_1.length c0_1, .slice A0_2 l0_2.length c0_2, .slice A0_3 l0_3.length c0_3, .slice A0_4 l0_4.length c0_4], .slice A1 l1.length c1] rfl ar ?_; (with_reducible refine (schema_Admits.calls a0_0 _ _ l0_1 _ _ l0_2 _ _ l0_3 _ _ l0_4 _ _ l1 t882 _ (Kd.cb HR0_1 HB) HC0_1.out (Kd.cb HR0_2 HB) HC0_2.out (Kd.cb HR0_3 HB) HC0_3.out (Kd.cb HR0_4 HB) HC0_4.out (Kd.cb HR1 HB) HC1.out (Glob.below HG.out (bl HB)) A4.out).mono ?_); rintro e w9 ⟨rfl, hb⟩; refine ⟨_, rfl, ?_⟩; replace BK881 := kb BK881 hb; replace HB := sb HB hb; (try clear hb); (try clear hb2 hk hi)))
   go_ret2
   exact ⟨_, er, by first | exact Kd.R_nil _ _ _ _ _ | exact Kd.N_nil _ _ _ _ _ | exact Kd.V_nil _ _ _ _ _ | exact Kd.Q_nil _ _ _ _ _ | exact Kd.S_nil _ _ _ _ _, bl HB⟩
  ·rw [if_neg c6] at H
   have c6b0 : decide (65536 < (a2.size : Int)) = false := decide_eq_false c6
   have c6b1 : decide (65536 < a2.size) = false := decide_eq_false (by omega)
   clear c6
   obtain ⟨y883, hy883⟩ : ∃ y_ : List (S50), y_ = (([] : List (S50))) := ⟨_, rfl⟩
   replace H : (if y883.length + l1.length < 3518437208883 then (row_Apply.l0 k l1 a2 (y883 ++ l1) 0 a0_0 l0_1 l0_2 l0_3 l0_4) else (none)) = some (r1, r2) := by first | (rw [hy883]; with_reducible exact H) | (have H2_ := (Option.bind_some _ _).symm.trans H; rw [hy883]; with_reducible exact H2_) | (have H2_ := (Option.bind_some _ _).symm.trans H; with_reducible exact H2_) | with_reducible exact H | (rw [hy883]; exact H) | exact H
   have Ny883 := am hy883
   clear hy883
   by_cases c10 : y883.length + l1.length < 3518437208883
   ·rw [if_pos c10] at H
    have LMc10 := am c10
    clear c10
    obtain ⟨y886, hy886⟩ : ∃ y_ : List (S50), y_ = (y883 ++ l1) := ⟨_, rfl⟩
    replace H : (row_Apply.l0 k l1 a2 y886 0 a0_0 l0_1 l0_2 l0_3 l0_4) = some (r1, r2) := by first | (rw [hy886]; with_reducible exact H) | (have H2_ := (Option.bind_some _ _).symm.trans H; rw [hy886]; with_reducible exact H2_) | (have H2_ := (Option.bind_some _ _).symm.trans H; with_reducible exact H2_) | with_reducible exact H | (rw [hy886]; exact H) | exact H
    have Ny886 := am hy886
    clear hy886
    have H' := am H
    clear H
    go_enter Tryd.func60, Tryd.ntmps60
    go_wp2_with (first | ((with_reducible refine gate_dst (N := 3) rfl ?_); (try (refine gate_guard (by rfl) ?_; dsimp only)); refine box_event rfl (N := 3) rfl (cs := #[.string a0_0, .slice A0_1 l0_1.length c0_1, .slice A0_2 l0_2.length c0_2, .slice A0_3 l0_3.length c0_3, .slice A0_4 l0_4.length c0_4]) (t := 65) gs ?_; intro gb881 hg w11 hbox hb; have BK881 := am (hbox); have GW881 := gw hg HB; have GE881 := gw hg HB; replace HB := sb HB hb; clear hb hbox hg; obtain ⟨Z12_0, Z12_1, Z12_2, Z12_3, Z12_4, Y12_0, Y12_1, Y12_2, Y12_3, Y12_4⟩ := bq5 BK881) | ((with_reducible refine gate_callee (f := 83) rfl ?_); refine goesL_ (some 18) rfl rfl Tryd.func83 (by kernel_rfl) rfl #[.agg #[.string a0_0, .slice A0_1 l0_1.length c0_1, .slice A0_2 l0_2.length c0_2, .slice A0_3 l0_3.length c0_3, .slice A0_4 l0_4.length c0_4], .slice A1 l1.length c1] rfl ar ?_; (with_reducible refine (schema_Admits.calls a0_0 _ _ l0_1 _ _ l0_2 _ _ l0_3 _ _ l0_4 _ _ l1 t882 _ (Kd.cb HR0_1 HB) HC0_1.out (Kd.cb HR0_2 HB) HC0_2.out (Kd.cb HR0_3 HB) HC0_3.out (Kd.cb HR0_4 HB) HC0_4.out (Kd.cb HR1 HB) HC1.out (Glob.below HG.out (bl HB)) A4.out).mono ?_); rintro e w13 ⟨rfl, hb⟩; refine ⟨_, rfl, ?_⟩; replace BK881 := kb BK881 hb; replace HB := sb HB hb; (try clear hb); (try clear hb2 hk hi)) | ((with_reducible refine gate_dst (N := 25) rfl ?_); (try (refine gate_guard (by rfl) ?_; dsimp only)); refine Kd.R_lit k50 _ 50 ?hg (N := 25) ?hd (xs := ([] : List (S50))) (inner := []) (ok := fun _ => True) (okp := fun _ => True) ?hr ?hp (fun _ hk => hk) trivial (Below.refl _ _) (Nat.le_refl _) (by simp) ?_; (case hd => rfl); (case hg => rfl); (case hr => first | (go_simp; done) | (go_simp; rfl)); (case hp => exact (Reps.none _ _)); intro v884 w14 ho15 hb hg_ hnew_; clear hg_ hnew_; (first | rw [← Ny883.out] at ho15 | (simp only [Int.reduceToNat] at ho15; rw [← Ny883.out] at ho15)); have n0_ := am (Kd.R_lower ho15 (below_size (bl HB))); have n1_ := kb BK881 hb; have n2_ := sb HB hb; clear BK881; clear HB; have HO885 := n0_; have BK881 := n1_; have HB := n2_; clear n0_ n1_ n2_; clear hb ho15) | ((with_reducible refine gate_builtin (b := .append) (xs := #[.tmp 25, .tmp 26]) rfl ?_); (try (refine gate_guard (by rfl) ?_; dsimp only)); at_builtin; refine Kd.R_append_rows k50 (w0 := w) w.heap.size rfl (.tmp 25) (.tmp 26) 22 50 (.agg #[(.int .i64 0), (.int .i64 0), (.float .f64 0), (.string ⟨#[]⟩)]) 40 rfl Tryd.underlying22 info50 rfl (by decide) (by omega) v884 y883 l1 _ _ _ (fun _ => True) (fun _ => False) rfl rfl ?aO ?aR (fun _ _ h => h) (fun _ h => h.elim) ?aF ?aB ?aS ?aL ?_; (case aR => exact Kd.cb HR1 HB); (case aB => exact (bl HB)); (case aF => exact (fun _ _ => trivial)); (case aO => exact (Kd.rr HO885.out)); (case aS => exact (below_size (bl HB))); (case aL => have := LMc10.out; omega); intro v887 w16 ho hb hg hat; rw [← Ny886.out] at ho; have n0_ := am (blk_grown (g := gb881) (o := .cells #[.string a0_0, .slice A0_1 l0_1.length c0_1, .slice A0_2 l0_2.length c0_2, .slice A0_3 l0_3.length c0_3, .slice A0_4 l0_4.length c0_4] 65 (0, 0)) (bk BK881) hg (Kd.R_ne HO885.out BK881.out (by decide))); have n1_ := am (hb); have n2_ := am (ho); clear BK881; clear HB; clear HO885; have BK881 := n0_; have HB := n1_; have HO888 := n2_; clear n0_ n1_ n2_; clear ho hb hg hat))
    go_loopg [2, 10] k (fun kq v2 v10 w' => ∃ (x2_1 : ByteArray) (x9_1 : List (S50)) (x10_1 : Int), v2 = .string x2_1 ∧ v10 = .int .i64 x10_1 ∧ Aside0 (row_Apply.l0 kq l1 x2_1 x9_1 x10_1 a0_0 l0_1 l0_2 l0_3 l0_4 = some (r1, r2)) ∧ Aside0 (kq ≤ k) ∧ Aside0 (Kd.R k50 50 w' w.heap.size (fun _ => True) v887 x9_1) ∧ Aside0 (w'.heap[gb881]? = some (.cells #[.string a0_0, (.slice A0_1 l0_1.length c0_1), (.slice A0_2 l0_2.length c0_2), (.slice A0_3 l0_3.length c0_3), (.slice A0_4 l0_4.length c0_4)] 65 (0, 0))) ∧ Aside0 (Below w.heap.size w w'))
    case atStart => exact ⟨(a2), (y886), (0), eb, eb, H', ⟨Nat.le_refl _⟩, ⟨Kd.rr HO888.out⟩, ⟨bk BK881⟩, ⟨bl HB⟩⟩
    case round =>
     clear H'
     (try clear c1); (try clear p2); (try clear c5); (try clear c5b0 c5b1); (try clear c6); (try clear c6b0 c6b1); (try clear c8); (try clear c10); (try clear Z12_0 Z12_1 Z12_2 Z12_3 Z12_4); (try clear Z8_0 Z8_1 Z8_2 Z8_3 Z8_4); (try clear Y12_0 Y12_1 Y12_2 Y12_3 Y12_4); (try clear Y8_0 Y8_1 Y8_2 Y8_3 Y8_4)
     obtain ⟨x2_1, x9_1, x10_1, rfl, rfl, HA, HK1, HO_9, BK881, HB⟩ := hrel
     cases gk with
     | zero => exact absurd HA.out (by simp [row_Apply.l0])
     | succ k1 =>
      have H := HA.out
      clear HA
      simp only [row_Apply.l0] at H
      by_cases c17 : x2_1.toList = ([] : List UInt8)
      ·rw [if_pos c17] at H
       have c17b0 : (x2_1.toList == ([] : List UInt8)) = true := beq_iff_eq.mpr c17
       have c17b1 : (x2_1.toList != ([] : List UInt8)) = false := bne_eq_false_iff_eq.mpr c17
       clear c17
       simp only [Option.some.injEq, Prod.mk.injEq] at H
       obtain ⟨rfl, rfl⟩ := H
       go_wp2
       go_ret2
       exact ⟨_, er, Kd.rr HO_9.out, bl HB⟩
      ·rw [if_neg c17] at H
       have c17b0 : (x2_1.toList == ([] : List UInt8)) = false := beq_eq_false_iff_ne.mpr c17
       have c17b1 : (x2_1.toList != ([] : List UInt8)) = true := bne_iff_ne.mpr c17
       replace H := Option.bind_eq_some_iff.mp H
       obtain ⟨⟨t889, t890, t891⟩, A180, H⟩ := H
       replace H : (if t891 = true then (row_Apply.j1 k1 l1 x9_1 x10_1 t889 t890 (decide (t889 ≥ (IntKind.u64.wrap (wrap64 ((l1.length : Int) - x10_1))))) a0_0 l0_1 l0_2 l0_3 l0_4) else (row_Apply.j1 k1 l1 x9_1 x10_1 t889 t890 true a0_0 l0_1 l0_2 l0_3 l0_4)) = some (r1, r2) := H
       have A18 := am A180
       clear A180
       have HC19 := am H
       clear H
       go_upto_region 10 with (first | ((with_reducible refine gate_callee (f := 95) rfl ?_); refine goesL_ (some 32) rfl rfl Tryd.func95 (by kernel_rfl) rfl #[.string x2_1] rfl ar ?_; (with_reducible refine (row_varint.calls k1 x2_1 t889 t890 t891 _ A18.out).mono ?_); rintro e w20 ⟨rfl, hb⟩; refine ⟨_, rfl, ?_⟩; have n0_ := am (Kd.R_below (Kd.rr HO_9.out) hb); have n1_ := kb BK881 hb; have n2_ := sb HB hb; clear HO_9; clear BK881; clear HB; have HO_9 := n0_; have BK881 := n1_; have HB := n2_; clear n0_ n1_ n2_; (try clear hb); (try clear hb2 hk hi)))
       (try simp only [Act.put, List.setIfInBounds_toArray, List.set_cons_zero, List.set_cons_succ])
       go_cut [46] (fun v46 wc => ∃ (kq : Nat) (x46_18 : Bool), v46 = .bool x46_18 ∧ Aside0 (row_Apply.j1 kq l1 x9_1 x10_1 t889 t890 x46_18 a0_0 l0_1 l0_2 l0_3 l0_4 = some (r1, r2)) ∧ Aside0 (kq ≤ k1) ∧ Aside0 (Kd.R k50 50 wc w.heap.size (fun _ => True) v887 x9_1) ∧ Aside0 (wc.heap[gb881]? = some (.cells #[.string a0_0, (.slice A0_1 l0_1.length c0_1), (.slice A0_2 l0_2.length c0_2), (.slice A0_3 l0_3.length c0_3), (.slice A0_4 l0_4.length c0_4)] 65 (0, 0))) ∧ Aside0 (Below w.heap.size w wc))
       case first =>
        have H := HC19.out
        clear HC19
        by_cases c21 : t891 = true
        ·subst c21
         have H1 : (row_Apply.j1 k1 l1 x9_1 x10_1 t889 t890 (decide (t889 ≥ (IntKind.u64.wrap (wrap64 ((l1.length : Int) - x10_1))))) a0_0 l0_1 l0_2 l0_3 l0_4) = some (r1, r2) := by rw [if_pos rfl] at H; exact H
         clear H
         have H := H1
         clear H1
         have H' := am H
         clear H
         go_wp2
         go_meet
         case rel => exact ⟨_, (decide (t889 ≥ (IntKind.u64.wrap (wrap64 ((l1.length : Int) - x10_1))))), eb, H', ⟨by have := HK1.out; first | omega | exact Nat.le_refl _⟩, ⟨Kd.rr HO_9.out⟩, ⟨bk BK881⟩, ⟨bl HB⟩⟩
        ·replace c21 := Bool.eq_false_iff.mpr c21
         subst c21
         have H1 : (row_Apply.j1 k1 l1 x9_1 x10_1 t889 t890 true a0_0 l0_1 l0_2 l0_3 l0_4) = some (r1, r2) := by rw [if_neg (show ¬ (false = true) by decide)] at H; exact H
         clear H
         have H := H1
         clear H1
         have H' := am H
         clear H
         go_wp2
         go_meet
         case rel => exact ⟨_, (true), eb, H', ⟨by have := HK1.out; first | omega | exact Nat.le_refl _⟩, ⟨Kd.rr HO_9.out⟩, ⟨bk BK881⟩, ⟨bl HB⟩⟩
       case rest =>
        clear HC19
        (try clear c1); (try clear c2); (try clear p2); (try clear c5); (try clear c5b0 c5b1); (try clear c6); (try clear c6b0 c6b1); (try clear p6); (try clear c8); (try clear c9); (try clear c10); (try clear c17); (try clear c17b0 c17b1); (try clear c21); (try clear Z12_0 Z12_1 Z12_2 Z12_3 Z12_4); (try clear Z8_0 Z8_1 Z8_2 Z8_3 Z8_4); (try clear Y12_0 Y12_1 Y12_2 Y12_3 Y12_4); (try clear Y8_0 Y8_1 Y8_2 Y8_3 Y8_4); (try clear p2)
        obtain ⟨kq, x46_18, rfl, HA, HJ18, HO_9, BK881, HB⟩ := hcut
        cases kq with
        | zero => exact absurd HA.out (by simp [row_Apply.j1])
        | succ kj18 =>
         have H := HA.out
         clear HA
         simp only [row_Apply.j1] at H
         by_cases c22 : x46_18 = true
         ·subst c22
          have H1 : (some (([] : List (S50)), 41)) = some (r1, r2) := by rw [if_pos rfl] at H; exact H
          clear H
          have H := H1
          clear H1
          simp only [Option.some.injEq, Prod.mk.injEq] at H
          obtain ⟨rfl, rfl⟩ := H
          go_wp2
          go_ret2
          exact ⟨_, er, by first | exact Kd.R_nil _ _ _ _ _ | exact Kd.N_nil _ _ _ _ _ | exact Kd.V_nil _ _ _ _ _ | exact Kd.Q_nil _ _ _ _ _ | exact Kd.S_nil _ _ _ _ _, bl HB⟩
         ·replace c22 := Bool.eq_false_iff.mpr c22
          subst c22
          have H1 : (if 0 ≤ (wrap64 (x10_1 + (wrap64 (t889)))) then (if (wrap64 (x10_1 + (wrap64 (t889)))) ≤ (wrap64 ((wrap64 (x10_1 + (wrap64 (t889)))) + 1)) then (if (wrap64 ((wrap64 (x10_1 + (wrap64 (t889)))) + 1)) ≤ (l0_1.length : Int) then ((row_decode.f kj18 ((l0_1.take ((wrap64 ((wrap64 (x10_1 + (wrap64 (t889)))) + 1)) : Int).toNat).drop ((wrap64 (x10_1 + (wrap64 (t889)))) : Int).toNat) t890).bind fun bt896 => (if bt896.2.2 = true then (if 0 < (bt896.1.length : Int) then (if (wrap64 (x10_1 + (wrap64 (t889)))) < (l1.length : Int) then ((row_same.f ((rd_T50 bt896.1 0).f0) ((rd_T50 bt896.1 0).f1) ((rd_T50 bt896.1 0).f2) ((rd_T50 bt896.1 0).f3) ((rd_T50 l1 (wrap64 (x10_1 + (wrap64 (t889))))).f0) ((rd_T50 l1 (wrap64 (x10_1 + (wrap64 (t889))))).f1) ((rd_T50 l1 (wrap64 (x10_1 + (wrap64 (t889))))).f2) ((rd_T50 l1 (wrap64 (x10_1 + (wrap64 (t889))))).f3)).bind fun t903 => (if t903 = true then (some (([] : List (S50)), 41)) else (if (wrap64 (x10_1 + (wrap64 (t889)))) < (x9_1.length : Int) then (row_Apply.l0 kj18 l1 bt896.2.1 (x9_1.set ((wrap64 (x10_1 + (wrap64 (t889)))) : Int).toNat (⟨(rd_T50 bt896.1 0).f0, (rd_T50 bt896.1 0).f1, (rd_T50 bt896.1 0).f2, (rd_T50 bt896.1 0).f3⟩ : S50)) (wrap64 ((wrap64 (x10_1 + (wrap64 (t889)))) + 1)) a0_0 l0_1 l0_2 l0_3 l0_4) else (none)))) else (none)) else (none)) else (some (([] : List (S50)), 41)))) else (none)) else (none)) else (none)) = some (r1, r2) := by rw [if_neg (show ¬ (false = true) by decide)] at H; exact H
          clear H
          have H := H1
          clear H1
          obtain ⟨ji23, hji23⟩ : ∃ j_ : Int, (wrap64 (x10_1 + (wrap64 (t889)))) = j_ := ⟨_, rfl⟩
          replace H : (if 0 ≤ (ji23) then (if (ji23) ≤ (wrap64 ((ji23) + 1)) then (if (wrap64 ((ji23) + 1)) ≤ (l0_1.length : Int) then ((row_decode.f kj18 ((l0_1.take ((wrap64 ((ji23) + 1)) : Int).toNat).drop ((ji23) : Int).toNat) t890).bind fun bt896 => (if bt896.2.2 = true then (if 0 < (bt896.1.length : Int) then (if (ji23) < (l1.length : Int) then ((row_same.f ((rd_T50 bt896.1 0).f0) ((rd_T50 bt896.1 0).f1) ((rd_T50 bt896.1 0).f2) ((rd_T50 bt896.1 0).f3) ((rd_T50 l1 (ji23)).f0) ((rd_T50 l1 (ji23)).f1) ((rd_T50 l1 (ji23)).f2) ((rd_T50 l1 (ji23)).f3)).bind fun t903 => (if t903 = true then (some (([] : List (S50)), 41)) else (if (ji23) < (x9_1.length : Int) then (row_Apply.l0 kj18 l1 bt896.2.1 (x9_1.set ((ji23) : Int).toNat (⟨(rd_T50 bt896.1 0).f0, (rd_T50 bt896.1 0).f1, (rd_T50 bt896.1 0).f2, (rd_T50 bt896.1 0).f3⟩ : S50)) (wrap64 ((ji23) + 1)) a0_0 l0_1 l0_2 l0_3 l0_4) else (none)))) else (none)) else (none)) else (some (([] : List (S50)), 41)))) else (none)) else (none)) else (none)) = some (r1, r2) := by first | (rw [hji23] at H; exact H) | (simp only [hji23] at H ⊢; exact H)
          have hji23w : (IntKind.i64.wrap (x10_1 + (wrap64 (t889)))) = ji23 := (i64_w _).trans hji23
          by_cases c24 : 0 ≤ (ji23)
          ·rw [if_pos c24] at H
           have c24b0 := eq_true c24
           have c24b1 : decide (0 ≤ (ji23)) = true := decide_eq_true c24
           clear c24
           by_cases c25 : (ji23) ≤ (wrap64 ((ji23) + 1))
           ·rw [if_pos c25] at H
            have c25b0 := eq_true c25
            have c25b1 : decide ((ji23) ≤ (wrap64 ((ji23) + 1))) = true := decide_eq_true c25
            by_cases c26 : (wrap64 ((ji23) + 1)) ≤ (l0_1.length : Int)
            ·rw [if_pos c26] at H
             have c26b0 := eq_true c26
             have c26b1 : decide ((wrap64 ((ji23) + 1)) ≤ (l0_1.length : Int)) = true := decide_eq_true c26
             obtain ⟨y892, hy892⟩ : ∃ y_ : List (S105), y_ = ((l0_1.take ((wrap64 ((ji23) + 1)) : Int).toNat).drop ((ji23) : Int).toNat) := ⟨_, rfl⟩
             replace H : ((row_decode.f kj18 y892 t890).bind fun bt896 => (if bt896.2.2 = true then (if 0 < (bt896.1.length : Int) then (if (ji23) < (l1.length : Int) then ((row_same.f ((rd_T50 bt896.1 0).f0) ((rd_T50 bt896.1 0).f1) ((rd_T50 bt896.1 0).f2) ((rd_T50 bt896.1 0).f3) ((rd_T50 l1 (ji23)).f0) ((rd_T50 l1 (ji23)).f1) ((rd_T50 l1 (ji23)).f2) ((rd_T50 l1 (ji23)).f3)).bind fun t903 => (if t903 = true then (some (([] : List (S50)), 41)) else (if (ji23) < (x9_1.length : Int) then (row_Apply.l0 kj18 l1 bt896.2.1 (x9_1.set ((ji23) : Int).toNat (⟨(rd_T50 bt896.1 0).f0, (rd_T50 bt896.1 0).f1, (rd_T50 bt896.1 0).f2, (rd_T50 bt896.1 0).f3⟩ : S50)) (wrap64 ((ji23) + 1)) a0_0 l0_1 l0_2 l0_3 l0_4) else (none)))) else (none)) else (none)) else (some (([] : List (S50)), 41)))) = some (r1, r2) := by first | (rw [hy892]; with_reducible exact H) | (have H2_ := (Option.bind_some _ _).symm.trans H; rw [hy892]; with_reducible exact H2_) | (have H2_ := (Option.bind_some _ _).symm.trans H; with_reducible exact H2_) | with_reducible exact H | (rw [hy892]; exact H) | exact H
             have Ny892 := am hy892
             clear hy892
             replace H := Option.bind_eq_some_iff.mp H
             obtain ⟨⟨t896, t897, t898⟩, A270, H⟩ := H
             replace H : (if t898 = true then (if 0 < (t896.length : Int) then (if (ji23) < (l1.length : Int) then ((row_same.f ((rd_T50 t896 0).f0) ((rd_T50 t896 0).f1) ((rd_T50 t896 0).f2) ((rd_T50 t896 0).f3) ((rd_T50 l1 (ji23)).f0) ((rd_T50 l1 (ji23)).f1) ((rd_T50 l1 (ji23)).f2) ((rd_T50 l1 (ji23)).f3)).bind fun t903 => (if t903 = true then (some (([] : List (S50)), 41)) else (if (ji23) < (x9_1.length : Int) then (row_Apply.l0 kj18 l1 t897 (x9_1.set ((ji23) : Int).toNat (⟨(rd_T50 t896 0).f0, (rd_T50 t896 0).f1, (rd_T50 t896 0).f2, (rd_T50 t896 0).f3⟩ : S50)) (wrap64 ((ji23) + 1)) a0_0 l0_1 l0_2 l0_3 l0_4) else (none)))) else (none)) else (none)) else (some (([] : List (S50)), 41))) = some (r1, r2) := H
             have A27 := am A270
             clear A270
             by_cases c28 : t898 = true
             ·subst c28
              have H1 : (if 0 < (t896.length : Int) then (if (ji23) < (l1.length : Int) then ((row_same.f ((rd_T50 t896 0).f0) ((rd_T50 t896 0).f1) ((rd_T50 t896 0).f2) ((rd_T50 t896 0).f3) ((rd_T50 l1 (ji23)).f0) ((rd_T50 l1 (ji23)).f1) ((rd_T50 l1 (ji23)).f2) ((rd_T50 l1 (ji23)).f3)).bind fun t903 => (if t903 = true then (some (([] : List (S50)), 41)) else (if (ji23) < (x9_1.length : Int) then (row_Apply.l0 kj18 l1 t897 (x9_1.set ((ji23) : Int).toNat (⟨(rd_T50 t896 0).f0, (rd_T50 t896 0).f1, (rd_T50 t896 0).f2, (rd_T50 t896 0).f3⟩ : S50)) (wrap64 ((ji23) + 1)) a0_0 l0_1 l0_2 l0_3 l0_4) else (none)))) else (none)) else (none)) = some (r1, r2) := by rw [if_pos rfl] at H; exact H
              clear H
              have H := H1
              clear H1
              by_cases c29 : 0 < (t896.length : Int)
              ·rw [if_pos c29] at H
               have c29b0 : decide (0 < (t896.length : Int)) = true := decide_eq_true c29
               have c29b1 : decide (0 < t896.length) = true := decide_eq_true (by omega)
               clear c29
               by_cases c30 : (ji23) < (l1.length : Int)
               ·rw [if_pos c30] at H
                have c30b0 : decide ((ji23) < (l1.length : Int)) = true := decide_eq_true c30
                clear c30
                replace H := Option.bind_eq_some_iff.mp H
                obtain ⟨t903, A310, H⟩ := H
                replace H : (if t903 = true then (some (([] : List (S50)), 41)) else (if (ji23) < (x9_1.length : Int) then (row_Apply.l0 kj18 l1 t897 (x9_1.set ((ji23) : Int).toNat (⟨(rd_T50 t896 0).f0, (rd_T50 t896 0).f1, (rd_T50 t896 0).f2, (rd_T50 t896 0).f3⟩ : S50)) (wrap64 ((ji23) + 1)) a0_0 l0_1 l0_2 l0_3 l0_4) else (none))) = some (r1, r2) := H
                have A31 := am A310
                clear A310
                by_cases c32 : t903 = true
                ·subst c32
                 have H1 : (some (([] : List (S50)), 41)) = some (r1, r2) := by rw [if_pos rfl] at H; exact H
                 clear H
                 have H := H1
                 clear H1
                 simp only [Option.some.injEq, Prod.mk.injEq] at H
                 obtain ⟨rfl, rfl⟩ := H
                 obtain ⟨Z33_0, Z33_1, Z33_2, Z33_3, Z33_4, Y33_0, Y33_1, Y33_2, Y33_3, Y33_4⟩ := bq5 BK881
                 have q34 : ((wrap64 ((ji23) + 1)) : Int) ≤ ((l0_1.length : Int) : Int) := oda
                 obtain ⟨i034, hi034, _, hsz34, _⟩ := info_parts info105
                 have hroom34 : l0_1.length ≤ c0_1 := HC0_1.out
                 have hC34 : Kd.C k105 _ A0_1 l0_1.length l0_1 := HR0_1.out
                 have ql34 : ((ji23) : Int) ≤ ((wrap64 ((ji23) + 1)) : Int) := oda
                 have q034 : (0 : Int) ≤ ((ji23) : Int) := oda
                 have hcut34 := cut_mid (P := Tryd.prog) 60 105 .i64 .i64 Tryd.underlying60 hi034 7 hsz34 A0_1 l0_1.length c0_1 (ji23) (wrap64 ((ji23) + 1)) q034 ql34 q34 hroom34
                 have hr34 := Kd.C_mid (lo := ((ji23) : Int).toNat) (hi := ((wrap64 ((ji23) + 1)) : Int).toNat) (c := c0_1) hC34 (by omega) (by omega) hroom34
                 obtain ⟨A34, hA34⟩ : ∃ A1, A1 = (if c0_1 = ((ji23) : Int).toNat then A0_1 else (A0_1 : Option Addr).map (·.add (((ji23) : Int).toNat * 7))) := ⟨_, rfl⟩
                 obtain ⟨c34, hc34⟩ : ∃ c1, c1 = c0_1 - ((ji23) : Int).toNat := ⟨_, rfl⟩
                 have hy34 : y892.length = ((wrap64 ((ji23) + 1)) : Int).toNat - ((ji23) : Int).toNat := (by rw [Ny892.out, List.length_drop, List.length_take] <;> omega)
                 rw [show ((l0_1).take ((wrap64 ((ji23) + 1)) : Int).toNat).drop ((ji23) : Int).toNat = y892 from Ny892.out.symm] at hr34
                 replace hr34 : Kd.C k105 _ A34 y892.length y892 := (by rw [hA34]; exact hr34)
                 rw [← hy34, ← hA34, ← hc34] at hcut34
                 have HR895 := am hr34
                 have HC895 := am (show y892.length ≤ c34 from by rw [hy34, hc34]; exact Nat.sub_le_sub_right (Nat.le_trans (by omega) hroom34) _)
                 clear hr34 hC34 hroom34 hi034 hsz34 hc34
                 have KY34 := am hy34
                 have KA34 := am hA34
                 clear hy34 hA34
                 replace q34 := eq_true q34
                 try go_wp2_with (first | ((with_reducible refine gate_callee (f := 92) rfl ?_); refine goesL_ (some 59) rfl rfl Tryd.func92 (by kernel_rfl) rfl #[.slice A34 y892.length c34, .string t890] rfl ar ?_; (with_reducible refine (row_decode.calls kj18 _ _ y892 t890 t896 t897 true _ ?side1 HC895.out (Glob.below HG.out (bl HB)) A27.out).mono ?_); (case side1 => exact Kd.cb HR895 HB); rintro e w35 ⟨v899, rfl, ho0, hb⟩; refine ⟨_, rfl, ?_⟩; have n0_ := am (Kd.R_elder' (Kd.rr HO_9.out) (Kd.R_base ho0) hb); have n1_ := am (Kd.R_lower (Kd.R_new' ho0 (Kd.R_lt (Kd.rr HO_9.out))) (below_size (bl HB))); have n2_ := kb BK881 hb; have n3_ := sb HB hb; clear HO_9; clear BK881; clear HB; have HO_9 := n0_; have HO900 := n1_; have BK881 := n2_; have HB := n3_; clear n0_ n1_ n2_ n3_; (try clear hb); (try clear hb2 hk hi); (try clear ho0)))
                 have n0_ := am (Kd.R_drew HO_9.out)
                 have n1_ := am (Kd.R_drew HO900.out)
                 have n2_ := am (blk_drew BK881.out)
                 have n3_ := am (below_drew1 HB.out)
                 clear HO_9
                 clear HO900
                 clear BK881
                 clear HB
                 have HO_9 := n0_
                 have HO900 := n1_
                 have BK881 := n2_
                 have HB := n3_
                 clear n0_ n1_ n2_ n3_
                 obtain ⟨Ao37, co37, eo37⟩ := Kd.R_slice HO900.out
                 (first | subst eo37 | (injection eo37 with f1_ f2_ f3_; have f4_ := f1_.symm; have f5_ := f3_.symm; clear f1_ f2_ f3_; subst f4_; subst f5_))
                 have p901 : 0 ≤ (0 : Int) := (by omega)
                 have q901 : 0 < (t896.length : Int) := oda
                 obtain ⟨ad901, e901, hx901_0, hx901_1, hx901_2, hx901_3⟩ := at_T50 (Kd.R_reads' HO900.out).2.2 0 p901 q901
                 cases e901
                 have qi901 : (0 < t896.length) = True := eq_true (by omega)
                 (try rw [show ((0 : Int)).toNat = 0 from rfl] at hx901_0)
                 (try rw [show 0 * 4 = 0 from rfl] at hx901_0)
                 (try rw [Addr.add_zero'] at hx901_0)
                 (try rw [show ((0 : Int)).toNat = 0 from rfl] at hx901_1)
                 (try rw [show 0 * 4 = 0 from rfl] at hx901_1)
                 (try rw [Addr.add_zero'] at hx901_1)
                 (try rw [show ((0 : Int)).toNat = 0 from rfl] at hx901_2)
                 (try rw [show 0 * 4 = 0 from rfl] at hx901_2)
                 (try rw [Addr.add_zero'] at hx901_2)
                 (try rw [show ((0 : Int)).toNat = 0 from rfl] at hx901_3)
                 (try rw [show 0 * 4 = 0 from rfl] at hx901_3)
                 (try rw [Addr.add_zero'] at hx901_3)
                 replace p901 := eq_true p901
                 replace q901 := eq_true q901
                 have p902 : 0 ≤ ((ji23) : Int) := oda
                 have q902 : (ji23) < (l1.length : Int) := oda
                 obtain ⟨ad902, e902, hx902_0, hx902_1, hx902_2, hx902_3⟩ := at_T50 HR1.out (ji23) p902 q902
                 have hw902_3 := hx902_3
                 have hw902_2 := hx902_2
                 have hw902_1 := hx902_1
                 have hw902_0 := hx902_0
                 cases e902
                 replace hx902_0 := hc HB hx902_0
                 replace hx902_1 := hc HB hx902_1
                 replace hx902_2 := hc HB hx902_2
                 replace hx902_3 := hc HB hx902_3
                 replace p902 := eq_true p902
                 replace q902 := eq_true q902
                 refine start_ (n := 12) (S := fun w' => w'.cell? ad901 = some (.int .i64 ((rd_T50 t896 0).f0)) ∧ w'.cell? ⟨ad901.block, ad901.off + 1, none⟩ = some (.int .i64 ((rd_T50 t896 0).f1)) ∧ w'.cell? ⟨ad901.block, ad901.off + 2, none⟩ = some (.float .f64 ((rd_T50 t896 0).f2)) ∧ w'.cell? ⟨ad901.block, ad901.off + 3, none⟩ = some (.string ((rd_T50 t896 0).f3)) ∧ w'.cell? (ad902.add (((ji23)).toNat * 4)) = some (.int .i64 ((rd_T50 l1 (ji23)).f0)) ∧ w'.cell? ⟨(ad902.add (((ji23)).toNat * 4)).block, (ad902.add (((ji23)).toNat * 4)).off + 1, none⟩ = some (.int .i64 ((rd_T50 l1 (ji23)).f1)) ∧ w'.cell? ⟨(ad902.add (((ji23)).toNat * 4)).block, (ad902.add (((ji23)).toNat * 4)).off + 2, none⟩ = some (.float .f64 ((rd_T50 l1 (ji23)).f2)) ∧ w'.cell? ⟨(ad902.add (((ji23)).toNat * 4)).block, (ad902.add (((ji23)).toNat * 4)).off + 3, none⟩ = some (.string ((rd_T50 l1 (ji23)).f3))) (ds := []) (bb 0 12) (by kernel_rfl) rfl rfl ⟨hx901_0, hx901_1, hx901_2, hx901_3, (hc HB hw902_0), (hc HB hw902_1), (hc HB hw902_2), (hc HB hw902_3)⟩ (fun hHeld => ?_); refine with_tabW row_Apply.tab14 row_Apply.bits14 (fun HT_ HW_ => ?_)
                 generalize w35.drew = w36 at HO_9 HO900 BK881 HB hx901_0 hx901_1 hx901_2 hx901_3 hx902_0 hx902_1 hx902_2 hx902_3 hHeld ⊢
                 refine pu HT_ 0 (some 63) (bb 1 12) ?_
                 refine pu HT_ 1 (some 64) (bb 2 12) ?_
                 refine pu HT_ 2 (some 65) (bb 3 12) ?_
                 refine pu HT_ 3 (some 66) (bb 4 12) ?_
                 refine pu HT_ 4 (some 67) (bb 5 12) ?_
                 refine pu HT_ 6 (some 69) (bs 12 95) ?_
                 refine pu HT_ 7 (some 70) (bs 12 223) ?_
                 refine pu HT_ 8 (some 71) (bs 12 479) ?_
                 refine tk HT_ HW_ hHeld 5 (some 68) (bb 9 12) ?_
                 refine tk HT_ HW_ hHeld 9 (some 72) (bb 10 12) ?_
                 refine one_ (i := 10) (N := some 73) (bb 11 12) rfl rfl (one_of HT_.out (by kernel_rfl)) (by decide) (fun K hK => ?_)
                 refine goes_ Tryd.func88 (by kernel_rfl) rfl #[.agg #[.int .i64 ((rd_T50 t896 0).f0), .int .i64 ((rd_T50 t896 0).f1), .float .f64 ((rd_T50 t896 0).f2), .string ((rd_T50 t896 0).f3)], .agg #[.int .i64 ((rd_T50 l1 (ji23)).f0), .int .i64 ((rd_T50 l1 (ji23)).f1), .float .f64 ((rd_T50 l1 (ji23)).f2), .string ((rd_T50 l1 (ji23)).f3)]] (by rfl) rfl rfl (by (try simp only [List.map_toArray, List.map_cons, List.map_nil]); first | done | (simp only [hji23]; rfl) | rfl | (simp only [List.length_drop, List.length_take]; rfl)) ?_
                 with_reducible refine (row_same.calls ((rd_T50 t896 0).f0) ((rd_T50 t896 0).f1) ((rd_T50 t896 0).f2) ((rd_T50 t896 0).f3) ((rd_T50 l1 (ji23)).f0) ((rd_T50 l1 (ji23)).f1) ((rd_T50 l1 (ji23)).f2) ((rd_T50 l1 (ji23)).f3) true _ A31.out).mono ?_
                 rintro e w38 ⟨rfl, hb⟩
                 have HS0_ := (hb.cell (World.block_lt_of_cell? _ _ (hHeld.1))).trans (hHeld.1)
                 have HS1_ := (hb.cell (World.block_lt_of_cell? _ _ (hHeld.2.1))).trans (hHeld.2.1)
                 have HS2_ := (hb.cell (World.block_lt_of_cell? _ _ (hHeld.2.2.1))).trans (hHeld.2.2.1)
                 have HS3_ := (hb.cell (World.block_lt_of_cell? _ _ (hHeld.2.2.2.1))).trans (hHeld.2.2.2.1)
                 refine ⟨_, rfl, ?_⟩
                 have n0_ := am (Kd.R_below (Kd.rr HO_9.out) hb)
                 have n1_ := am (Kd.R_below (Kd.rr HO900.out) hb)
                 have n2_ := kb BK881 hb
                 have n3_ := sb HB hb
                 clear HO_9
                 clear HO900
                 clear BK881
                 clear HB
                 have HO_9 := n0_
                 have HO900 := n1_
                 have BK881 := n2_
                 have HB := n3_
                 clear n0_ n1_ n2_ n3_
                 (try clear hb)
                 (try clear hb2)
                 (try clear hk)
                 (try clear hi)
                 refine hK.out _ _ ⟨HS0_, HS1_, HS2_, HS3_, (hc HB hw902_0), (hc HB hw902_1), (hc HB hw902_2), (hc HB hw902_3)⟩ (fun hHeld => ?_)
                 clear hK K
                 refine norm_ (a' := ?_) ?_ ?_
                 rotate_left
                 ·show Act.put _ (some 73) _ = _
                  simp only [Act.put, List.setIfInBounds_toArray, List.set_cons_zero, List.set_cons_succ, i64_w, i32_w]
                  rfl
                 refine pu HT_ 11 (some 74) (bb 12 12) ?_
                 refine done_ (done_of HT_.out (by kernel_rfl)) ?_
                 try go_wp2
                 go_ret2
                 exact ⟨_, by first | rfl | (simp [errW_none, errW_some] <;> rfl) | (simp only [← hji23]; first | rfl | (simp [errW_none, errW_some] <;> rfl)) | (simp [*, errW_none, errW_some] <;> rfl), by first | exact Kd.R_nil _ _ _ _ _ | exact Kd.N_nil _ _ _ _ _ | exact Kd.V_nil _ _ _ _ _ | exact Kd.Q_nil _ _ _ _ _ | exact Kd.S_nil _ _ _ _ _, bl HB⟩
                ·replace c32 := Bool.eq_false_iff.mpr c32
                 subst c32
                 have H1 : (if (ji23) < (x9_1.length : Int) then (row_Apply.l0 kj18 l1 t897 (x9_1.set ((ji23) : Int).toNat (⟨(rd_T50 t896 0).f0, (rd_T50 t896 0).f1, (rd_T50 t896 0).f2, (rd_T50 t896 0).f3⟩ : S50)) (wrap64 ((ji23) + 1)) a0_0 l0_1 l0_2 l0_3 l0_4) else (none)) = some (r1, r2) := by rw [if_neg (show ¬ (false = true) by decide)] at H; exact H
                 clear H
                 have H := H1
                 clear H1
                 by_cases c39 : (ji23) < (x9_1.length : Int)
                 ·rw [if_pos c39] at H
                  have c39b0 : decide ((ji23) < (x9_1.length : Int)) = true := decide_eq_true c39
                  clear c39
                  obtain ⟨y905, hy905⟩ : ∃ y_ : List (S50), y_ = (x9_1.set ((ji23) : Int).toNat (⟨(rd_T50 t896 0).f0, (rd_T50 t896 0).f1, (rd_T50 t896 0).f2, (rd_T50 t896 0).f3⟩ : S50)) := ⟨_, rfl⟩
                  replace H : (row_Apply.l0 kj18 l1 t897 y905 (wrap64 ((ji23) + 1)) a0_0 l0_1 l0_2 l0_3 l0_4) = some (r1, r2) := by first | (rw [hy905]; with_reducible exact H) | (have H2_ := (Option.bind_some _ _).symm.trans H; rw [hy905]; with_reducible exact H2_) | (have H2_ := (Option.bind_some _ _).symm.trans H; with_reducible exact H2_) | with_reducible exact H | (rw [hy905]; exact H) | exact H
                  have Ny905 := am hy905
                  clear hy905
                  have H' := am H
                  clear H
                  obtain ⟨Z41_0, Z41_1, Z41_2, Z41_3, Z41_4, Y41_0, Y41_1, Y41_2, Y41_3, Y41_4⟩ := bq5 BK881
                  have q42 : ((wrap64 ((ji23) + 1)) : Int) ≤ ((l0_1.length : Int) : Int) := oda
                  obtain ⟨i042, hi042, _, hsz42, _⟩ := info_parts info105
                  have hroom42 : l0_1.length ≤ c0_1 := HC0_1.out
                  have hC42 : Kd.C k105 _ A0_1 l0_1.length l0_1 := HR0_1.out
                  have ql42 : ((ji23) : Int) ≤ ((wrap64 ((ji23) + 1)) : Int) := oda
                  have q042 : (0 : Int) ≤ ((ji23) : Int) := oda
                  have hcut42 := cut_mid (P := Tryd.prog) 60 105 .i64 .i64 Tryd.underlying60 hi042 7 hsz42 A0_1 l0_1.length c0_1 (ji23) (wrap64 ((ji23) + 1)) q042 ql42 q42 hroom42
                  have hr42 := Kd.C_mid (lo := ((ji23) : Int).toNat) (hi := ((wrap64 ((ji23) + 1)) : Int).toNat) (c := c0_1) hC42 (by omega) (by omega) hroom42
                  obtain ⟨A42, hA42⟩ : ∃ A1, A1 = (if c0_1 = ((ji23) : Int).toNat then A0_1 else (A0_1 : Option Addr).map (·.add (((ji23) : Int).toNat * 7))) := ⟨_, rfl⟩
                  obtain ⟨c42, hc42⟩ : ∃ c1, c1 = c0_1 - ((ji23) : Int).toNat := ⟨_, rfl⟩
                  have hy42 : y892.length = ((wrap64 ((ji23) + 1)) : Int).toNat - ((ji23) : Int).toNat := (by rw [Ny892.out, List.length_drop, List.length_take] <;> omega)
                  rw [show ((l0_1).take ((wrap64 ((ji23) + 1)) : Int).toNat).drop ((ji23) : Int).toNat = y892 from Ny892.out.symm] at hr42
                  replace hr42 : Kd.C k105 _ A42 y892.length y892 := (by rw [hA42]; exact hr42)
                  rw [← hy42, ← hA42, ← hc42] at hcut42
                  have HR895 := am hr42
                  have HC895 := am (show y892.length ≤ c42 from by rw [hy42, hc42]; exact Nat.sub_le_sub_right (Nat.le_trans (by omega) hroom42) _)
                  clear hr42 hC42 hroom42 hi042 hsz42 hc42
                  have KY42 := am hy42
                  have KA42 := am hA42
                  clear hy42 hA42
                  replace q42 := eq_true q42
                  try go_wp2_with (first | ((with_reducible refine gate_callee (f := 92) rfl ?_); refine goesL_ (some 59) rfl rfl Tryd.func92 (by kernel_rfl) rfl #[.slice A42 y892.length c42, .string t890] rfl ar ?_; (with_reducible refine (row_decode.calls kj18 _ _ y892 t890 t896 t897 true _ ?side1 HC895.out (Glob.below HG.out (bl HB)) A27.out).mono ?_); (case side1 => exact Kd.cb HR895 HB); rintro e w43 ⟨v899, rfl, ho0, hb⟩; refine ⟨_, rfl, ?_⟩; have n0_ := am (Kd.R_elder' (Kd.rr HO_9.out) (Kd.R_base ho0) hb); have n1_ := am (Kd.R_lower (Kd.R_new' ho0 (Kd.R_lt (Kd.rr HO_9.out))) (below_size (bl HB))); have n2_ := kb BK881 hb; have n3_ := sb HB hb; clear HO_9; clear BK881; clear HB; have HO_9 := n0_; have HO900 := n1_; have BK881 := n2_; have HB := n3_; clear n0_ n1_ n2_ n3_; (try clear hb); (try clear hb2 hk hi); (try clear ho0)))
                  have n0_ := am (Kd.R_drew HO_9.out)
                  have n1_ := am (Kd.R_drew HO900.out)
                  have n2_ := am (blk_drew BK881.out)
                  have n3_ := am (below_drew1 HB.out)
                  clear HO_9
                  clear HO900
                  clear BK881
                  clear HB
                  have HO_9 := n0_
                  have HO900 := n1_
                  have BK881 := n2_
                  have HB := n3_
                  clear n0_ n1_ n2_ n3_
                  obtain ⟨Ao45, co45, eo45⟩ := Kd.R_slice HO900.out
                  (first | subst eo45 | (injection eo45 with f1_ f2_ f3_; have f4_ := f1_.symm; have f5_ := f3_.symm; clear f1_ f2_ f3_; subst f4_; subst f5_))
                  have p901 : 0 ≤ (0 : Int) := (by omega)
                  have q901 : 0 < (t896.length : Int) := oda
                  obtain ⟨ad901, e901, hx901_0, hx901_1, hx901_2, hx901_3⟩ := at_T50 (Kd.R_reads' HO900.out).2.2 0 p901 q901
                  cases e901
                  have qi901 : (0 < t896.length) = True := eq_true (by omega)
                  (try rw [show ((0 : Int)).toNat = 0 from rfl] at hx901_0)
                  (try rw [show 0 * 4 = 0 from rfl] at hx901_0)
                  (try rw [Addr.add_zero'] at hx901_0)
                  (try rw [show ((0 : Int)).toNat = 0 from rfl] at hx901_1)
                  (try rw [show 0 * 4 = 0 from rfl] at hx901_1)
                  (try rw [Addr.add_zero'] at hx901_1)
                  (try rw [show ((0 : Int)).toNat = 0 from rfl] at hx901_2)
                  (try rw [show 0 * 4 = 0 from rfl] at hx901_2)
                  (try rw [Addr.add_zero'] at hx901_2)
                  (try rw [show ((0 : Int)).toNat = 0 from rfl] at hx901_3)
                  (try rw [show 0 * 4 = 0 from rfl] at hx901_3)
                  (try rw [Addr.add_zero'] at hx901_3)
                  replace p901 := eq_true p901
                  replace q901 := eq_true q901
                  have p902 : 0 ≤ ((ji23) : Int) := oda
                  have q902 : (ji23) < (l1.length : Int) := oda
                  obtain ⟨ad902, e902, hx902_0, hx902_1, hx902_2, hx902_3⟩ := at_T50 HR1.out (ji23) p902 q902
                  have hw902_3 := hx902_3
                  have hw902_2 := hx902_2
                  have hw902_1 := hx902_1
                  have hw902_0 := hx902_0
                  cases e902
                  replace hx902_0 := hc HB hx902_0
                  replace hx902_1 := hc HB hx902_1
                  replace hx902_2 := hc HB hx902_2
                  replace hx902_3 := hc HB hx902_3
                  replace p902 := eq_true p902
                  replace q902 := eq_true q902
                  refine start_ (n := 12) (S := fun w' => w'.cell? ad901 = some (.int .i64 ((rd_T50 t896 0).f0)) ∧ w'.cell? ⟨ad901.block, ad901.off + 1, none⟩ = some (.int .i64 ((rd_T50 t896 0).f1)) ∧ w'.cell? ⟨ad901.block, ad901.off + 2, none⟩ = some (.float .f64 ((rd_T50 t896 0).f2)) ∧ w'.cell? ⟨ad901.block, ad901.off + 3, none⟩ = some (.string ((rd_T50 t896 0).f3)) ∧ w'.cell? (ad902.add (((ji23)).toNat * 4)) = some (.int .i64 ((rd_T50 l1 (ji23)).f0)) ∧ w'.cell? ⟨(ad902.add (((ji23)).toNat * 4)).block, (ad902.add (((ji23)).toNat * 4)).off + 1, none⟩ = some (.int .i64 ((rd_T50 l1 (ji23)).f1)) ∧ w'.cell? ⟨(ad902.add (((ji23)).toNat * 4)).block, (ad902.add (((ji23)).toNat * 4)).off + 2, none⟩ = some (.float .f64 ((rd_T50 l1 (ji23)).f2)) ∧ w'.cell? ⟨(ad902.add (((ji23)).toNat * 4)).block, (ad902.add (((ji23)).toNat * 4)).off + 3, none⟩ = some (.string ((rd_T50 l1 (ji23)).f3))) (ds := []) (bb 0 12) (by kernel_rfl) rfl rfl ⟨hx901_0, hx901_1, hx901_2, hx901_3, (hc HB hw902_0), (hc HB hw902_1), (hc HB hw902_2), (hc HB hw902_3)⟩ (fun hHeld => ?_); refine with_tabW row_Apply.tab14 row_Apply.bits14 (fun HT_ HW_ => ?_)
                  generalize w43.drew = w44 at HO_9 HO900 BK881 HB hx901_0 hx901_1 hx901_2 hx901_3 hx902_0 hx902_1 hx902_2 hx902_3 hHeld ⊢
                  refine pu HT_ 0 (some 63) (bb 1 12) ?_
                  refine pu HT_ 1 (some 64) (bb 2 12) ?_
                  refine pu HT_ 2 (some 65) (bb 3 12) ?_
                  refine pu HT_ 3 (some 66) (bb 4 12) ?_
                  refine pu HT_ 4 (some 67) (bb 5 12) ?_
                  refine pu HT_ 6 (some 69) (bs 12 95) ?_
                  refine pu HT_ 7 (some 70) (bs 12 223) ?_
                  refine pu HT_ 8 (some 71) (bs 12 479) ?_
                  refine tk HT_ HW_ hHeld 5 (some 68) (bb 9 12) ?_
                  refine tk HT_ HW_ hHeld 9 (some 72) (bb 10 12) ?_
                  refine one_ (i := 10) (N := some 73) (bb 11 12) rfl rfl (one_of HT_.out (by kernel_rfl)) (by decide) (fun K hK => ?_)
                  refine goes_ Tryd.func88 (by kernel_rfl) rfl #[.agg #[.int .i64 ((rd_T50 t896 0).f0), .int .i64 ((rd_T50 t896 0).f1), .float .f64 ((rd_T50 t896 0).f2), .string ((rd_T50 t896 0).f3)], .agg #[.int .i64 ((rd_T50 l1 (ji23)).f0), .int .i64 ((rd_T50 l1 (ji23)).f1), .float .f64 ((rd_T50 l1 (ji23)).f2), .string ((rd_T50 l1 (ji23)).f3)]] (by rfl) rfl rfl (by (try simp only [List.map_toArray, List.map_cons, List.map_nil]); first | done | (simp only [hji23]; rfl) | rfl | (simp only [List.length_drop, List.length_take]; rfl)) ?_
                  with_reducible refine (row_same.calls ((rd_T50 t896 0).f0) ((rd_T50 t896 0).f1) ((rd_T50 t896 0).f2) ((rd_T50 t896 0).f3) ((rd_T50 l1 (ji23)).f0) ((rd_T50 l1 (ji23)).f1) ((rd_T50 l1 (ji23)).f2) ((rd_T50 l1 (ji23)).f3) false _ A31.out).mono ?_
                  rintro e w46 ⟨rfl, hb⟩
                  have HS0_ := (hb.cell (World.block_lt_of_cell? _ _ (hHeld.1))).trans (hHeld.1)
                  have HS1_ := (hb.cell (World.block_lt_of_cell? _ _ (hHeld.2.1))).trans (hHeld.2.1)
                  have HS2_ := (hb.cell (World.block_lt_of_cell? _ _ (hHeld.2.2.1))).trans (hHeld.2.2.1)
                  have HS3_ := (hb.cell (World.block_lt_of_cell? _ _ (hHeld.2.2.2.1))).trans (hHeld.2.2.2.1)
                  refine ⟨_, rfl, ?_⟩
                  have n0_ := am (Kd.R_below (Kd.rr HO_9.out) hb)
                  have n1_ := am (Kd.R_below (Kd.rr HO900.out) hb)
                  have n2_ := kb BK881 hb
                  have n3_ := sb HB hb
                  clear HO_9
                  clear HO900
                  clear BK881
                  clear HB
                  have HO_9 := n0_
                  have HO900 := n1_
                  have BK881 := n2_
                  have HB := n3_
                  clear n0_ n1_ n2_ n3_
                  (try clear hb)
                  (try clear hb2)
                  (try clear hk)
                  (try clear hi)
                  refine hK.out _ _ ⟨HS0_, HS1_, HS2_, HS3_, (hc HB hw902_0), (hc HB hw902_1), (hc HB hw902_2), (hc HB hw902_3)⟩ (fun hHeld => ?_)
                  clear hK K
                  refine norm_ (a' := ?_) ?_ ?_
                  rotate_left
                  ·show Act.put _ (some 73) _ = _
                   simp only [Act.put, List.setIfInBounds_toArray, List.set_cons_zero, List.set_cons_succ, i64_w, i32_w]
                   rfl
                  refine pu HT_ 11 (some 74) (bb 12 12) ?_
                  refine done_ (done_of HT_.out (by kernel_rfl)) ?_
                  have p904 : 0 ≤ (0 : Int) := (by omega)
                  have q904 : 0 < (t896.length : Int) := oda
                  obtain ⟨ad904, e904, hx904_0, hx904_1, hx904_2, hx904_3⟩ := at_T50 (Kd.R_reads' HO900.out).2.2 0 p904 q904
                  obtain rfl : ad901 = ad904 := (by injection e904)
                  have qi904 : (0 < t896.length) = True := eq_true (by omega)
                  (try rw [show ((0 : Int)).toNat = 0 from rfl] at hx904_0)
                  (try rw [show 0 * 4 = 0 from rfl] at hx904_0)
                  (try rw [Addr.add_zero'] at hx904_0)
                  (try rw [show ((0 : Int)).toNat = 0 from rfl] at hx904_1)
                  (try rw [show 0 * 4 = 0 from rfl] at hx904_1)
                  (try rw [Addr.add_zero'] at hx904_1)
                  (try rw [show ((0 : Int)).toNat = 0 from rfl] at hx904_2)
                  (try rw [show 0 * 4 = 0 from rfl] at hx904_2)
                  (try rw [Addr.add_zero'] at hx904_2)
                  (try rw [show ((0 : Int)).toNat = 0 from rfl] at hx904_3)
                  (try rw [show 0 * 4 = 0 from rfl] at hx904_3)
                  (try rw [Addr.add_zero'] at hx904_3)
                  replace p904 := eq_true p904
                  replace q904 := eq_true q904
                  have p40 : 0 ≤ ((ji23) : Int) := oda
                  have q40 : ((ji23) : Int) < ((x9_1.length : Int) : Int) := oda
                  obtain ⟨go40, co40, eo40, gb40, gl40, cl40, HG40⟩ := Kd.R_form HO_9.out (by omega)
                  (first | cases eo40 | (injection eo40 with ea_ en_ ec_; (first | subst ea_ | (injection ea_ with ea_; subst ea_)); subst ec_; clear en_))
                  have GB40 := am gb40
                  have GG40 := am HG40
                  clear gb40 gl40 HG40
                  obtain ⟨ce40, hcl40, hM40, hcc40, hfr40⟩ := Kd.R_elem HO_9.out z50 ((ji23) : Int) p40 q40
                  obtain rfl := k50_openM hM40
                  have hx40_0 : w46.cell? ⟨go40, ((ji23) : Int).toNat * 4, none⟩ = some (.int .i64 ((rd_T50 x9_1 (ji23)).f0)) := hcc40 0 _ rfl
                  have hx40_1 : w46.cell? ⟨go40, ((ji23) : Int).toNat * 4 + 1, none⟩ = some (.int .i64 ((rd_T50 x9_1 (ji23)).f1)) := hcc40 1 _ rfl
                  have hx40_2 : w46.cell? ⟨go40, ((ji23) : Int).toNat * 4 + 2, none⟩ = some (.float .f64 ((rd_T50 x9_1 (ji23)).f2)) := hcc40 2 _ rfl
                  have hx40_3 : w46.cell? ⟨go40, ((ji23) : Int).toNat * 4 + 3, none⟩ = some (.string ((rd_T50 x9_1 (ji23)).f3)) := hcc40 3 _ rfl
                  have hf40_0 : w46.frozen? ⟨go40, ((ji23) : Int).toNat * 4, none⟩ = false := hfr40 0
                  have hf40_1 : w46.frozen? ⟨go40, ((ji23) : Int).toNat * 4 + 1, none⟩ = false := hfr40 1
                  have hf40_2 : w46.frozen? ⟨go40, ((ji23) : Int).toNat * 4 + 2, none⟩ = false := hfr40 2
                  have hf40_3 : w46.frozen? ⟨go40, ((ji23) : Int).toNat * 4 + 3, none⟩ = false := hfr40 3
                  clear hcl40 hcc40 hfr40 hM40
                  replace p40 := eq_true p40
                  replace q40 := eq_true q40
                  have n_ := am (Kd.R_mono (ok' := (fun k_ => some k_ ≠ (.slice (some ad901) t896.length co45 : Value).ownBlock)) HO_9.out (fun k_ hk => hk.2))
                  clear HO_9
                  have HO_9 := n_
                  clear n_
                  have HX47 := am (show Kd.R k50 50 w46 w.heap.size (fun k_ => some k_ ≠ (.slice (some ad901) t896.length co45 : Value).ownBlock) (.slice (some ⟨go40, 0, none⟩) x9_1.length co40) x9_1 from (Kd.rr HO_9.out))
                  obtain ⟨ce47, hcl47, hM47, hcc47, hfr47⟩ := Kd.R_elem HX47.out z50 ((ji23) : Int) (oda) (by have h_ : ((ji23) : Int) < ((x9_1.length : Int) : Int) := oda; first | exact h_ | (have e_ := (Kd.R_reads' HO_9.out).1; omega) | simpa using h_)
                  obtain rfl := k50_openM hM47
                  have HP47 := Kd.R_seg HX47.out ((ji23) : Int) (oda) (by have h_ : ((ji23) : Int) < ((x9_1.length : Int) : Int) := oda; first | exact h_ | (have e_ := (Kd.R_reads' HO_9.out).1; omega) | simpa using h_) (seg := [.int .i64 ((rd_T50 t896 0).f0), .int .i64 ((rd_T50 t896 0).f1), .float .f64 ((rd_T50 t896 0).f2), .string ((rd_T50 t896 0).f3)]) (j := 0) hcl47 hcc47 (show 4 ≤ 4 from by decide) (x' := (⟨(rd_T50 t896 0).f0, (rd_T50 t896 0).f1, (rd_T50 t896 0).f2, (rd_T50 t896 0).f3⟩ : S50)) (k50_mkM _ _ _ (⟨(rd_T50 t896 0).f0, (rd_T50 t896 0).f1, (rd_T50 t896 0).f2, (rd_T50 t896 0).f3⟩ : S50) ) (fun _ hk => hk)
                  have hx47_0 := hcc47 0 _ rfl
                  (try simp only [show (k50).sz = 4 from rfl, Nat.mul_one, Nat.add_zero] at hx47_0)
                  have hf47_0 := hfr47 0
                  (try simp only [show (k50).sz = 4 from rfl, Nat.mul_one, Nat.add_zero] at hf47_0)
                  have hx47_1 := hcc47 1 _ rfl
                  (try simp only [show (k50).sz = 4 from rfl, Nat.mul_one, Nat.add_zero] at hx47_1)
                  have hf47_1 := hfr47 1
                  (try simp only [show (k50).sz = 4 from rfl, Nat.mul_one, Nat.add_zero] at hf47_1)
                  have hx47_2 := hcc47 2 _ rfl
                  (try simp only [show (k50).sz = 4 from rfl, Nat.mul_one, Nat.add_zero] at hx47_2)
                  have hf47_2 := hfr47 2
                  (try simp only [show (k50).sz = 4 from rfl, Nat.mul_one, Nat.add_zero] at hf47_2)
                  have hx47_3 := hcc47 3 _ rfl
                  (try simp only [show (k50).sz = 4 from rfl, Nat.mul_one, Nat.add_zero] at hx47_3)
                  have hf47_3 := hfr47 3
                  (try simp only [show (k50).sz = 4 from rfl, Nat.mul_one, Nat.add_zero] at hf47_3)
                  clear hcl47 hcc47 hfr47 hM47
                  try go_wp2_with (first | ((with_reducible refine gate_store (t := 50) (p := 83) rfl ?_); refine store_event (t := 50) (p := 83) (v := ?vo_w48) (w1 := ((((w46.setCell ⟨go40, ((ji23) : Int).toNat * 4, none⟩ (.int .i64 ((rd_T50 t896 0).f0))).setCell ⟨go40, ((ji23) : Int).toNat * 4 + 1, none⟩ (.int .i64 ((rd_T50 t896 0).f1))).setCell ⟨go40, ((ji23) : Int).toNat * 4 + 2, none⟩ (.float .f64 ((rd_T50 t896 0).f2))).setCell ⟨go40, ((ji23) : Int).toNat * 4 + 3, none⟩ (.string ((rd_T50 t896 0).f3)))) ?hg ?ho ?hn ?hr ?_; (case ho => rfl); (case hg => rfl); (case hn => rfl); (case hr => first | (go_simp; done) | (go_simp; rfl)); intro w48 hw; have hg : w46.grownBy w48 (some go40) := (by rw [hw]; exact HP47.2); have hp_ : Kd.R k50 50 w48 w.heap.size (fun k_ => some k_ ≠ (.slice (some ad901) t896.length co45 : Value).ownBlock) (.slice (some ⟨go40, 0, none⟩) x9_1.length co40) y905 := (by rw [hw, Ny905.out]; exact HP47.1); clear HP47; have n0_ := am (hp_); have n1_ := am (blk_grown (g := gb881) (o := .cells #[.string a0_0, .slice A0_1 l0_1.length c0_1, .slice A0_2 l0_2.length c0_2, .slice A0_3 l0_3.length c0_3, .slice A0_4 l0_4.length c0_4] 65 (0, 0)) (bk BK881) hg (Kd.R_ne HO_9.out BK881.out (by decide))); have n2_ := am (Kd.R_after (v := (.slice (some ⟨go40, 0, none⟩) x9_1.length co40)) (v1 := (.slice (some ⟨go40, 0, none⟩) x9_1.length co40)) (ok := (fun _ => True)) (Kd.rr HO900.out) hg (.inl rfl)); have n3_ := am ((by rw [hw]; exact below_set (below_set (below_set (below_set (HB.out) GB40.out) GB40.out) GB40.out) GB40.out : Below w.heap.size w w48)); clear HO_9; clear BK881; clear HO900; clear HB; have HO_9 := n0_; have BK881 := n1_; have HO900 := n2_; have HB := n3_; clear n0_ n1_ n2_ n3_; clear hg hw hp_))
                  go_roundg kj18
                  case measure => have := HK1.out; have := HJ18.out; omega
                  case rel => exact ⟨(t897), (y905), (wrap64 ((ji23) + 1)), eb, (by first | rfl | (simp; done) | (simp only [← hji23] <;> (first | rfl | simp)) | (simp [*]; done)), H', ⟨by have := HK1.out; have := HJ18.out; omega⟩, ⟨by (with_reducible repeat (first | apply Kd.R_alloc | apply Kd.R_drewN | apply Kd.R_drew)); exact Kd.R_mono HO_9.out (fun _ hk => trivial)⟩, ⟨bk BK881⟩, ⟨bl HB⟩⟩
                 ·rw [if_neg c39] at H
                  exact absurd H (by simp)
               ·rw [if_neg c30] at H
                exact absurd H (by simp)
              ·rw [if_neg c29] at H
               exact absurd H (by simp)
             ·replace c28 := Bool.eq_false_iff.mpr c28
              subst c28
              have H1 : (some (([] : List (S50)), 41)) = some (r1, r2) := by rw [if_neg (show ¬ (false = true) by decide)] at H; exact H
              clear H
              have H := H1
              clear H1
              simp only [Option.some.injEq, Prod.mk.injEq] at H
              obtain ⟨rfl, rfl⟩ := H
              obtain ⟨Z49_0, Z49_1, Z49_2, Z49_3, Z49_4, Y49_0, Y49_1, Y49_2, Y49_3, Y49_4⟩ := bq5 BK881
              have q50 : ((wrap64 ((ji23) + 1)) : Int) ≤ ((l0_1.length : Int) : Int) := oda
              obtain ⟨i050, hi050, _, hsz50, _⟩ := info_parts info105
              have hroom50 : l0_1.length ≤ c0_1 := HC0_1.out
              have hC50 : Kd.C k105 _ A0_1 l0_1.length l0_1 := HR0_1.out
              have ql50 : ((ji23) : Int) ≤ ((wrap64 ((ji23) + 1)) : Int) := oda
              have q050 : (0 : Int) ≤ ((ji23) : Int) := oda
              have hcut50 := cut_mid (P := Tryd.prog) 60 105 .i64 .i64 Tryd.underlying60 hi050 7 hsz50 A0_1 l0_1.length c0_1 (ji23) (wrap64 ((ji23) + 1)) q050 ql50 q50 hroom50
              have hr50 := Kd.C_mid (lo := ((ji23) : Int).toNat) (hi := ((wrap64 ((ji23) + 1)) : Int).toNat) (c := c0_1) hC50 (by omega) (by omega) hroom50
              obtain ⟨A50, hA50⟩ : ∃ A1, A1 = (if c0_1 = ((ji23) : Int).toNat then A0_1 else (A0_1 : Option Addr).map (·.add (((ji23) : Int).toNat * 7))) := ⟨_, rfl⟩
              obtain ⟨c50, hc50⟩ : ∃ c1, c1 = c0_1 - ((ji23) : Int).toNat := ⟨_, rfl⟩
              have hy50 : y892.length = ((wrap64 ((ji23) + 1)) : Int).toNat - ((ji23) : Int).toNat := (by rw [Ny892.out, List.length_drop, List.length_take] <;> omega)
              rw [show ((l0_1).take ((wrap64 ((ji23) + 1)) : Int).toNat).drop ((ji23) : Int).toNat = y892 from Ny892.out.symm] at hr50
              replace hr50 : Kd.C k105 _ A50 y892.length y892 := (by rw [hA50]; exact hr50)
              rw [← hy50, ← hA50, ← hc50] at hcut50
              have HR895 := am hr50
              have HC895 := am (show y892.length ≤ c50 from by rw [hy50, hc50]; exact Nat.sub_le_sub_right (Nat.le_trans (by omega) hroom50) _)
              clear hr50 hC50 hroom50 hi050 hsz50 hc50
              have KY50 := am hy50
              have KA50 := am hA50
              clear hy50 hA50
              replace q50 := eq_true q50
              try go_wp2_with (first | ((with_reducible refine gate_callee (f := 92) rfl ?_); refine goesL_ (some 59) rfl rfl Tryd.func92 (by kernel_rfl) rfl #[.slice A50 y892.length c50, .string t890] rfl ar ?_; (with_reducible refine (row_decode.calls kj18 _ _ y892 t890 t896 t897 false _ ?side1 HC895.out (Glob.below HG.out (bl HB)) A27.out).mono ?_); (case side1 => exact Kd.cb HR895 HB); rintro e w51 ⟨v899, rfl, ho0, hb⟩; refine ⟨_, rfl, ?_⟩; have n0_ := am (Kd.R_elder' (Kd.rr HO_9.out) (Kd.R_base ho0) hb); have n1_ := am (Kd.R_lower (Kd.R_new' ho0 (Kd.R_lt (Kd.rr HO_9.out))) (below_size (bl HB))); have n2_ := kb BK881 hb; have n3_ := sb HB hb; clear HO_9; clear BK881; clear HB; have HO_9 := n0_; have HO900 := n1_; have BK881 := n2_; have HB := n3_; clear n0_ n1_ n2_ n3_; (try clear hb); (try clear hb2 hk hi); (try clear ho0)))
              have n0_ := am (Kd.R_drew HO_9.out)
              have n1_ := am (Kd.R_drew HO900.out)
              have n2_ := am (blk_drew BK881.out)
              have n3_ := am (below_drew1 HB.out)
              clear HO_9
              clear HO900
              clear BK881
              clear HB
              have HO_9 := n0_
              have HO900 := n1_
              have BK881 := n2_
              have HB := n3_
              clear n0_ n1_ n2_ n3_
              refine start_ (n := 12) (S := fun w' => True) (ds := []) (bb 0 12) (by kernel_rfl) rfl rfl trivial (fun hHeld => ?_); refine with_tabW row_Apply.tab14 row_Apply.bits14 (fun HT_ HW_ => ?_)
              generalize w51.drew = w52 at HO_9 HO900 BK881 HB hHeld ⊢
              refine pu HT_ 0 (some 63) (bb 1 12) ?_
              refine pu HT_ 1 (some 64) (bb 2 12) ?_
              refine pu HT_ 2 (some 65) (bb 3 12) ?_
              refine pure_ (i := 3) (N := some 66) (v := undef) (a' := ?_) (bb 4 12) rfl rfl (any_of HT_.out (by kernel_rfl)) (fun _ _ _ h => h) (Or.inr ⟨by rfl, rfl⟩) ?_ ?_
              rotate_left
              ·simp only [Act.put, List.setIfInBounds_toArray, List.set_cons_zero, List.set_cons_succ, i64_w, i32_w]
               rfl
              refine pure_ (i := 4) (N := some 67) (v := undef) (a' := ?_) (bb 5 12) rfl rfl (any_of HT_.out (by kernel_rfl)) (fun _ _ _ h => h) (Or.inr ⟨by rfl, rfl⟩) ?_ ?_
              rotate_left
              ·simp only [Act.put, List.setIfInBounds_toArray, List.set_cons_zero, List.set_cons_succ, i64_w, i32_w]
               rfl
              refine pure_ (i := 5) (N := some 68) (v := undef) (a' := ?_) (bb 6 12) rfl rfl (any_of HT_.out (by kernel_rfl)) (fun _ _ _ h => h) (Or.inr ⟨by rfl, rfl⟩) ?_ ?_
              rotate_left
              ·simp only [Act.put, List.setIfInBounds_toArray, List.set_cons_zero, List.set_cons_succ, i64_w, i32_w]
               rfl
              refine pure_ (i := 6) (N := some 69) (v := undef) (a' := ?_) (bb 7 12) rfl rfl (any_of HT_.out (by kernel_rfl)) (fun _ _ _ h => h) (Or.inr ⟨by rfl, rfl⟩) ?_ ?_
              rotate_left
              ·simp only [Act.put, List.setIfInBounds_toArray, List.set_cons_zero, List.set_cons_succ, i64_w, i32_w]
               rfl
              refine pure_ (i := 7) (N := some 70) (v := undef) (a' := ?_) (bb 8 12) rfl rfl (any_of HT_.out (by kernel_rfl)) (fun _ _ _ h => h) (Or.inr ⟨by rfl, rfl⟩) ?_ ?_
              rotate_left
              ·simp only [Act.put, List.setIfInBounds_toArray, List.set_cons_zero, List.set_cons_succ, i64_w, i32_w]
               rfl
              refine pure_ (i := 8) (N := some 71) (v := undef) (a' := ?_) (bb 9 12) rfl rfl (any_of HT_.out (by kernel_rfl)) (fun _ _ _ h => h) (Or.inr ⟨by rfl, rfl⟩) ?_ ?_
              rotate_left
              ·simp only [Act.put, List.setIfInBounds_toArray, List.set_cons_zero, List.set_cons_succ, i64_w, i32_w]
               rfl
              refine pure_ (i := 9) (N := some 72) (v := undef) (a' := ?_) (bb 10 12) rfl rfl (any_of HT_.out (by kernel_rfl)) (fun _ _ _ h => h) (Or.inr ⟨by rfl, rfl⟩) ?_ ?_
              rotate_left
              ·simp only [Act.put, List.setIfInBounds_toArray, List.set_cons_zero, List.set_cons_succ, i64_w, i32_w]
               rfl
              refine pure_ (i := 10) (N := some 73) (v := undef) (a' := ?_) (bb 11 12) rfl rfl (any_of HT_.out (by kernel_rfl)) (fun _ _ _ h => h) (Or.inr ⟨by rfl, rfl⟩) ?_ ?_
              rotate_left
              ·simp only [Act.put, List.setIfInBounds_toArray, List.set_cons_zero, List.set_cons_succ, i64_w, i32_w]
               rfl
              refine pu HT_ 11 (some 74) (bb 12 12) ?_
              refine done_ (done_of HT_.out (by kernel_rfl)) ?_
              try go_wp2
              go_ret2
              exact ⟨_, by first | rfl | (simp [errW_none, errW_some] <;> rfl) | (simp only [← hji23]; first | rfl | (simp [errW_none, errW_some] <;> rfl)) | (simp [*, errW_none, errW_some] <;> rfl), by first | exact Kd.R_nil _ _ _ _ _ | exact Kd.N_nil _ _ _ _ _ | exact Kd.V_nil _ _ _ _ _ | exact Kd.Q_nil _ _ _ _ _ | exact Kd.S_nil _ _ _ _ _, bl HB⟩
            ·rw [if_neg c26] at H
             exact absurd H (by simp)
           ·rw [if_neg c25] at H
            exact absurd H (by simp)
          ·rw [if_neg c24] at H
           exact absurd H (by simp)
   ·rw [if_neg c10] at H
    exact absurd H (by simp)
 ·rw [if_neg c5] at H
  have c5b0 : (t882 == 0) = false := beq_eq_false_iff_ne.mpr c5
  have c5b1 : (t882 != 0) = true := bne_iff_ne.mpr c5
  simp only [Option.some.injEq, Prod.mk.injEq] at H
  obtain ⟨rfl, rfl⟩ := H
  go_enter Tryd.func60, Tryd.ntmps60
  go_wp2_with (first | ((with_reducible refine gate_dst (N := 3) rfl ?_); (try (refine gate_guard (by rfl) ?_; dsimp only)); refine box_event rfl (N := 3) rfl (cs := #[.string a0_0, .slice A0_1 l0_1.length c0_1, .slice A0_2 l0_2.length c0_2, .slice A0_3 l0_3.length c0_3, .slice A0_4 l0_4.length c0_4]) (t := 65) gs ?_; intro gb881 hg w53 hbox hb; have BK881 := am (hbox); have GW881 := gw hg HB; have GE881 := gw hg HB; replace HB := sb HB hb; clear hb hbox hg; obtain ⟨Z54_0, Z54_1, Z54_2, Z54_3, Z54_4, Y54_0, Y54_1, Y54_2, Y54_3, Y54_4⟩ := bq5 BK881) | ((with_reducible refine gate_callee (f := 83) rfl ?_); refine goesL_ (some 18) rfl rfl Tryd.func83 (by kernel_rfl) rfl #[.agg #[.string a0_0, .slice A0_1 l0_1.length c0_1, .slice A0_2 l0_2.length c0_2, .slice A0_3 l0_3.length c0_3, .slice A0_4 l0_4.length c0_4], .slice A1 l1.length c1] rfl ar ?_; (with_reducible refine (schema_Admits.calls a0_0 _ _ l0_1 _ _ l0_2 _ _ l0_3 _ _ l0_4 _ _ l1 t882 _ (Kd.cb HR0_1 HB) HC0_1.out (Kd.cb HR0_2 HB) HC0_2.out (Kd.cb HR0_3 HB) HC0_3.out (Kd.cb HR0_4 HB) HC0_4.out (Kd.cb HR1 HB) HC1.out (Glob.below HG.out (bl HB)) A4.out).mono ?_); rintro e w55 ⟨rfl, hb⟩; refine ⟨_, rfl, ?_⟩; replace BK881 := kb BK881 hb; replace HB := sb HB hb; (try clear hb); (try clear hb2 hk hi)))
  go_ret2
  exact ⟨_, er, by first | exact Kd.R_nil _ _ _ _ _ | exact Kd.N_nil _ _ _ _ _ | exact Kd.V_nil _ _ _ _ _ | exact Kd.Q_nil _ _ _ _ _ | exact Kd.S_nil _ _ _ _ _, bl HB⟩
def vellumref01_Row.l0 : Nat → List (S50) → List (S50) → Int → Option ((List (S50)))
 | 0, _, _, _ => none
 | k + 1, x0, x3, x4 => if x4 < (x0.length : Int) then (if 0 ≤ x4 then (if x3.length < 3518437208883 then (vellumref01_Row.l0 k x0 (x3 ++ [(⟨(rd_T50 x0 x4).f0, (rd_T50 x0 x4).f1, (rd_T50 x0 x4).f2, (rd_T50 x0 x4).f3⟩ : S50)]) (wrap64 (x4 + 1))) else (none)) else (none)) else (some x3)
def vellumref01_Row.f (k : Nat) (l0 : List (S50)) : Option ((List (S50))) := vellumref01_Row.l0 k l0 (([] : List (S50))) 0
set_option maxHeartbeats 8000000 in
set_option maxRecDepth 100000 in
theorem vellumref01_Row.calls (k : Nat) (A0 : Option Addr) (c0 : Nat) (l0 : List (S50)) (r : List (S50)) (w : World) (hr0 : Kd.C k50 w A0 l0.length l0) (hc0 : l0.length ≤ c0) (h : vellumref01_Row.f k l0 = some r) :
  Calls Tryd.prog 51 #[.slice A0 l0.length c0] w fun e w' => ∃ v0_ : Value, e = .returned (v0_) ∧ Kd.R k50 50 w' w.heap.size (fun _ => True) v0_ r ∧ Below w.heap.size w w' := by
 have hu50 := Tryd.underlying50
 have HR0 := am hr0
 have HC0 := am hc0
 clear hr0 hc0
 have HB := am (Below.refl w.heap.size w)
 have H : (vellumref01_Row.l0 k l0 (([] : List (S50))) 0) = some r := h
 clear h
 obtain ⟨y906, hy906⟩ : ∃ y_ : List (S50), y_ = (([] : List (S50))) := ⟨_, rfl⟩
 replace H : (vellumref01_Row.l0 k l0 y906 0) = some r := by first | (rw [hy906]; with_reducible exact H) | (have H2_ := (Option.bind_some _ _).symm.trans H; rw [hy906]; with_reducible exact H2_) | (have H2_ := (Option.bind_some _ _).symm.trans H; with_reducible exact H2_) | with_reducible exact H | (rw [hy906]; exact H) | exact H
 have Ny906 := am hy906
 clear hy906
 have H' := am H
 clear H
 go_enter Tryd.func51, Tryd.ntmps51
 go_wp2_with (first | ((with_reducible refine gate_dst (N := 5) rfl ?_); refine Kd.R_lit k50 _ 50 ?hg (N := 5) ?hd (xs := ([] : List (S50))) (inner := []) (ok := fun _ => True) (okp := fun _ => True) ?hr ?hp (fun _ hk => hk) trivial (Below.refl _ _) (Nat.le_refl _) (by simp) ?_; (case hd => rfl); (case hg => rfl); (case hr => first | (go_simp; done) | (go_simp; rfl)); (case hp => exact (Reps.none _ _)); intro v907 w2 ho3 hb hg_ hnew_; clear hg_ hnew_; (first | rw [← Ny906.out] at ho3 | (simp only [Int.reduceToNat] at ho3; rw [← Ny906.out] at ho3)); have n0_ := am (Kd.R_lower ho3 (below_size (bl HB))); have n1_ := sb HB hb; clear HB; have HO908 := n0_; have HB := n1_; clear n0_ n1_; clear hb ho3))
 go_loopg [3, 4] k (fun kq v3 v4 w' => ∃ (x3_1 : List (S50)) (x4_1 : Int), v4 = .int .i64 x4_1 ∧ Aside0 (vellumref01_Row.l0 kq l0 x3_1 x4_1 = some r) ∧ Aside0 (kq ≤ k) ∧ Aside0 (Kd.R k50 50 w' w.heap.size (fun _ => True) v3 x3_1) ∧ Aside0 (Below w.heap.size w w'))
 case atStart => exact ⟨(y906), (0), eb, H', ⟨Nat.le_refl _⟩, ⟨Kd.rr HO908.out⟩, ⟨bl HB⟩⟩
 case round =>
  clear H'
  try clear p2
  obtain ⟨x3_1, x4_1, rfl, HA, HK1, HO_3, HB⟩ := hrel
  cases gk with
  | zero => exact absurd HA.out (by simp [vellumref01_Row.l0])
  | succ k1 =>
   have H := HA.out
   clear HA
   simp only [vellumref01_Row.l0] at H
   by_cases c4 : x4_1 < (l0.length : Int)
   ·rw [if_pos c4] at H
    have c4b0 : decide (x4_1 < (l0.length : Int)) = true := decide_eq_true c4
    clear c4
    by_cases c5 : 0 ≤ x4_1
    ·rw [if_pos c5] at H
     have c5b0 : decide (0 ≤ x4_1) = true := decide_eq_true c5
     clear c5
     by_cases c6 : x3_1.length < 3518437208883
     ·rw [if_pos c6] at H
      have LMc6 := am c6
      clear c6
      obtain ⟨y910, hy910⟩ : ∃ y_ : List (S50), y_ = (x3_1 ++ [(⟨(rd_T50 l0 x4_1).f0, (rd_T50 l0 x4_1).f1, (rd_T50 l0 x4_1).f2, (rd_T50 l0 x4_1).f3⟩ : S50)]) := ⟨_, rfl⟩
      replace H : (vellumref01_Row.l0 k1 l0 y910 (wrap64 (x4_1 + 1))) = some r := by first | (rw [hy910]; with_reducible exact H) | (have H2_ := (Option.bind_some _ _).symm.trans H; rw [hy910]; with_reducible exact H2_) | (have H2_ := (Option.bind_some _ _).symm.trans H; with_reducible exact H2_) | with_reducible exact H | (rw [hy910]; exact H) | exact H
      have Ny910 := am hy910
      clear hy910
      have H' := am H
      clear H
      have p909 : 0 ≤ (x4_1 : Int) := oda
      have q909 : x4_1 < (l0.length : Int) := oda
      obtain ⟨ad909, e909, hx909_0, hx909_1, hx909_2, hx909_3⟩ := at_T50 HR0.out x4_1 p909 q909
      cases e909
      replace hx909_0 := hc HB hx909_0
      replace hx909_1 := hc HB hx909_1
      replace hx909_2 := hc HB hx909_2
      replace hx909_3 := hc HB hx909_3
      replace p909 := eq_true p909
      replace q909 := eq_true q909
      go_wp2_with (first | ((with_reducible refine gate_builtin (b := .append) (xs := #[.tmp 12, .tmp 17]) rfl ?_); at_builtin; refine Kd.R_append k50 (w0 := w) w.heap.size rfl (.tmp 12) (.tmp 17) 22 50 (.agg #[(.int .i64 0), (.int .i64 0), (.float .f64 0), (.string ⟨#[]⟩)]) 40 rfl Tryd.underlying22 info50 rfl (by decide) (by omega) u3 x3_1 (⟨(rd_T50 l0 x4_1).f0, (rd_T50 l0 x4_1).f1, (rd_T50 l0 x4_1).f2, (rd_T50 l0 x4_1).f3⟩ : S50) [.int .i64 ((rd_T50 l0 x4_1).f0), .int .i64 ((rd_T50 l0 x4_1).f1), .float .f64 ((rd_T50 l0 x4_1).f2), .string ((rd_T50 l0 x4_1).f3)] (fun _ => True) (fun _ => False) rfl rfl ?aP (fun _ hk => hk.elim) ?aF ?aO ?aB ?aS ?aL ?_; (case aP => exact k50_mkM _ _ _ (⟨(rd_T50 l0 x4_1).f0, (rd_T50 l0 x4_1).f1, (rd_T50 l0 x4_1).f2, (rd_T50 l0 x4_1).f3⟩ : S50)); (case aB => exact (bl HB)); (case aF => exact (fun _ _ => trivial)); (case aO => exact (Kd.rr HO_3.out)); (case aS => exact (below_size (bl HB))); (case aL => have := LMc6.out; omega); intro v911 w7 ho hb hg hat; rw [← Ny910.out] at ho; have n0_ := am (hb); have n1_ := am (ho); clear HB; clear HO_3; have HB := n0_; have HO912 := n1_; clear n0_ n1_; clear ho hb hg hat))
      go_roundg k1
      case measure => have := HK1.out; omega
      case rel => exact ⟨(y910), (wrap64 (x4_1 + 1)), eb, H', ⟨by have := HK1.out; omega⟩, ⟨Kd.rr HO912.out⟩, ⟨bl HB⟩⟩
     ·rw [if_neg c6] at H
      exact absurd H (by simp)
    ·rw [if_neg c5] at H
     exact absurd H (by simp)
   ·rw [if_neg c4] at H
    have c4b0 : decide (x4_1 < (l0.length : Int)) = false := decide_eq_false c4
    clear c4
    obtain rfl := Option.some.inj H
    go_wp2
    go_ret
    exact ⟨_, er, Kd.rr HO_3.out, bl HB⟩
mutual
def vellumref04_Apply.l0 : Nat → List (S50) → ByteArray → List (S50) → Int → Int → ByteArray → List (S105) → List Int → List (S115) → List (S139) → Option ((List (S50)) × Int)
 | 0, _, _, _, _, _, _, _, _, _, _ => none
 | k + 1, x1, x2, x9, x10, x11, x914000, x914001, x914002, x914003, x914004 => if x11 < (x2.size : Int) then (if 0 ≤ x11 then (if x11 ≤ (x2.size : Int) then ((vellumref04_number.f k (x2.extract (x11 : Int).toNat x2.size)).bind fun bt919 => (if bt919.2 = 0 then (vellumref04_Apply.j1 k x1 x2 x9 x10 x11 bt919.1 bt919.2 true x914000 x914001 x914002 x914003 x914004) else (vellumref04_Apply.j1 k x1 x2 x9 x10 x11 bt919.1 bt919.2 (decide (bt919.1 ≥ (IntKind.u64.wrap (wrap64 ((wrap64 ((x1.length : Int) - x10)) - 1))))) x914000 x914001 x914002 x914003 x914004))) else (none)) else (none)) else ((vellumref03_Admits.f k x914000 x914001 x914002 x914003 x914004 x9).bind fun t918 => (if t918 = 0 then (some (x9, 0)) else (some (([] : List (S50)), 41))))
def vellumref04_Apply.j1 : Nat → List (S50) → ByteArray → List (S50) → Int → Int → Int → Int → Bool → ByteArray → List (S105) → List Int → List (S115) → List (S139) → Option ((List (S50)) × Int)
 | 0, _, _, _, _, _, _, _, _, _, _, _, _, _ => none
 | k + 1, x1, x2, x9, x10, x11, x12, x13, x49, x914000, x914001, x914002, x914003, x914004 => if x49 = true then (some (([] : List (S50)), 41)) else (if 0 ≤ (wrap64 ((wrap64 (x10 + 1)) + (wrap64 (x12)))) then (if (wrap64 ((wrap64 (x10 + 1)) + (wrap64 (x12)))) < (x914001.length : Int) then (if 0 ≤ (wrap64 (x11 + x13)) then (if (wrap64 (x11 + x13)) ≤ (x2.size : Int) then ((vellumref04_values.f k (([(rd_T105 x914001 (wrap64 ((wrap64 (x10 + 1)) + (wrap64 (x12))))).f1] : List Int)) (x2.extract ((wrap64 (x11 + x13)) : Int).toNat x2.size)).bind fun bt925 => (if bt925.2 < 0 then (some (([] : List (S50)), 41)) else (if 0 < (bt925.1.length : Int) then (if (wrap64 ((wrap64 (x10 + 1)) + (wrap64 (x12)))) < (x1.length : Int) then ((vellumref01_Same.f ((rd_T50 bt925.1 0).f0) ((rd_T50 bt925.1 0).f1) ((rd_T50 bt925.1 0).f2) ((rd_T50 bt925.1 0).f3) ((rd_T50 x1 (wrap64 ((wrap64 (x10 + 1)) + (wrap64 (x12))))).f0) ((rd_T50 x1 (wrap64 ((wrap64 (x10 + 1)) + (wrap64 (x12))))).f1) ((rd_T50 x1 (wrap64 ((wrap64 (x10 + 1)) + (wrap64 (x12))))).f2) ((rd_T50 x1 (wrap64 ((wrap64 (x10 + 1)) + (wrap64 (x12))))).f3)).bind fun t931 => (if t931 = true then (some (([] : List (S50)), 41)) else (if (wrap64 ((wrap64 (x10 + 1)) + (wrap64 (x12)))) < (x9.length : Int) then (vellumref04_Apply.l0 k x1 x2 (x9.set ((wrap64 ((wrap64 (x10 + 1)) + (wrap64 (x12)))) : Int).toNat (⟨(rd_T50 bt925.1 0).f0, (rd_T50 bt925.1 0).f1, (rd_T50 bt925.1 0).f2, (rd_T50 bt925.1 0).f3⟩ : S50)) (wrap64 ((wrap64 (x10 + 1)) + (wrap64 (x12)))) (wrap64 ((wrap64 (x11 + x13)) + bt925.2)) x914000 x914001 x914002 x914003 x914004) else (none)))) else (none)) else (none)))) else (none)) else (none)) else (none)) else (none))
end
def vellumref04_Apply.f (k : Nat) (a0_0 : ByteArray) (l0_1 : List (S105)) (l0_2 : List Int) (l0_3 : List (S115)) (l0_4 : List (S139)) (l1 : List (S50)) (a2 : ByteArray) : Option ((List (S50)) × Int) := (vellumref03_Admits.f k a0_0 l0_1 l0_2 l0_3 l0_4 l1).bind fun t914 => (if t914 = 0 then (if (a2.size : Int) > 65536 then (some (([] : List (S50)), 3)) else ((vellumref01_Row.f k l1).bind fun t915 => (vellumref04_Apply.l0 k l1 a2 t915 (-1) 0 a0_0 l0_1 l0_2 l0_3 l0_4))) else (some (([] : List (S50)), t914)))
def vellumref04_Apply.T15 : Bool × List (List Nat × List Nat) := (true, [([], []), ([0], [0]), ([], []), ([1, 2], [1, 2]), ([3], [3]), ([4], [4]), ([5], [5]), ([], []), ([], []), ([7, 8], [7, 8]), ([6, 9], [6, 9]), ([10], [10]), ([11], [11]), ([11], [11]), ([12, 10, 0, 1, 2, 3, 4, 5, 6, 7, 8, 9, 10, 11, 12], [12]), ([13, 14, 0, 1, 2, 3, 4, 5, 6, 7, 8, 9, 10, 11, 12, 13, 14], [13])])
def vellumref04_Apply.B15 : List Nat := [0, 1, 0, 7, 15, 31, 63, 0, 0, 384, 1023, 2047, 4095, 4095, 8191, 32767]
theorem vellumref04_Apply.tab15 : rtab .any (opsOf Tryd.f61 15) = vellumref04_Apply.T15 := by kernel_rfl
theorem vellumref04_Apply.bits15 : waitsOk vellumref04_Apply.T15.2 vellumref04_Apply.B15 = true := by kernel_rfl
def vellumref04_Apply.T16 : Bool × List (List Nat × List Nat) := (true, [([], []), ([0], [0]), ([1], [1]), ([2], [2]), ([3, 2], [2, 3]), ([4, 2], [2, 4]), ([2], [2]), ([2], [2]), ([6, 7, 2], [2, 6, 7]), ([8, 2], [2, 8]), ([5, 9, 2, 2], [2, 5, 9]), ([2, 10], [2, 10])])
def vellumref04_Apply.B16 : List Nat := [0, 1, 3, 7, 15, 31, 7, 7, 199, 455, 1023, 2047]
theorem vellumref04_Apply.tab16 : rtab .any (opsOf Tryd.f61 16) = vellumref04_Apply.T16 := by kernel_rfl
theorem vellumref04_Apply.bits16 : waitsOk vellumref04_Apply.T16.2 vellumref04_Apply.B16 = true := by kernel_rfl
set_option maxHeartbeats 8000000 in
set_option maxRecDepth 100000 in
theorem vellumref04_Apply.calls (k : Nat) (a0_0 : ByteArray) (A0_1 : Option Addr) (c0_1 : Nat) (l0_1 : List (S105)) (A0_2 : Option Addr) (c0_2 : Nat) (l0_2 : List Int) (A0_3 : Option Addr) (c0_3 : Nat) (l0_3 : List (S115)) (A0_4 : Option Addr) (c0_4 : Nat) (l0_4 : List (S139)) (A1 : Option Addr) (c1 : Nat) (l1 : List (S50)) (a2 : ByteArray) (r1 : List (S50)) (r2 : Int) (w : World) (hr0_1 : Kd.C k105 w A0_1 l0_1.length l0_1) (hc0_1 : l0_1.length ≤ c0_1) (hr0_2 : Kd.C (Kd.int .i64) w A0_2 l0_2.length l0_2) (hc0_2 : l0_2.length ≤ c0_2) (hr0_3 : Kd.C k115 w A0_3 l0_3.length l0_3) (hc0_3 : l0_3.length ≤ c0_3) (hr0_4 : Kd.C k139 w A0_4 l0_4.length l0_4) (hc0_4 : l0_4.length ≤ c0_4) (hr1 : Kd.C k50 w A1 l1.length l1) (hc1 : l1.length ≤ c1) (hG : Glob w) (h : vellumref04_Apply.f k a0_0 l0_1 l0_2 l0_3 l0_4 l1 a2 = some (r1, r2)) :
  Calls Tryd.prog 61 #[.agg #[.string a0_0, .slice A0_1 l0_1.length c0_1, .slice A0_2 l0_2.length c0_2, .slice A0_3 l0_3.length c0_3, .slice A0_4 l0_4.length c0_4], .slice A1 l1.length c1, .string a2] w fun e w' => ∃ v0_ : Value, e = .returned (.tuple #[v0_, .int .i64 r2]) ∧ Kd.R k50 50 w' w.heap.size (fun _ => True) v0_ r1 ∧ Below w.heap.size w w' := by
 have hu65 := Tryd.underlying65
 have hu50 := Tryd.underlying50
 have HR0_1 := am hr0_1
 have HC0_1 := am hc0_1
 clear hr0_1 hc0_1
 have HR0_2 := am hr0_2
 have HC0_2 := am hc0_2
 clear hr0_2 hc0_2
 have HR0_3 := am hr0_3
 have HC0_3 := am hc0_3
 clear hr0_3 hc0_3
 have HR0_4 := am hr0_4
 have HC0_4 := am hc0_4
 clear hr0_4 hc0_4
 have HR1 := am hr1
 have HC1 := am hc1
 clear hr1 hc1
 have HG := am hG
 clear hG
 have HB := am (Below.refl w.heap.size w)
 have H : ((vellumref03_Admits.f k a0_0 l0_1 l0_2 l0_3 l0_4 l1).bind fun t914 => (if t914 = 0 then (if (a2.size : Int) > 65536 then (some (([] : List (S50)), 3)) else ((vellumref01_Row.f k l1).bind fun t915 => (vellumref04_Apply.l0 k l1 a2 t915 (-1) 0 a0_0 l0_1 l0_2 l0_3 l0_4))) else (some (([] : List (S50)), t914)))) = some (r1, r2) := h
 clear h
 replace H := Option.bind_eq_some_iff.mp H
 obtain ⟨t914, A40, H⟩ := H
 replace H : (if t914 = 0 then (if (a2.size : Int) > 65536 then (some (([] : List (S50)), 3)) else ((vellumref01_Row.f k l1).bind fun t915 => (vellumref04_Apply.l0 k l1 a2 t915 (-1) 0 a0_0 l0_1 l0_2 l0_3 l0_4))) else (some (([] : List (S50)), t914))) = some (r1, r2) := H
 have A4 := am A40
 clear A40
 by_cases c5 : t914 = 0
 ·rw [if_pos c5] at H
  have c5b0 : (t914 == 0) = true := beq_iff_eq.mpr c5
  have c5b1 : (t914 != 0) = false := bne_eq_false_iff_eq.mpr c5
  clear c5
  by_cases c6 : (a2.size : Int) > 65536
  ·rw [if_pos c6] at H
   have c6b0 : decide (65536 < (a2.size : Int)) = true := decide_eq_true c6
   have c6b1 : decide (65536 < a2.size) = true := decide_eq_true (by omega)
   clear c6
   simp only [Option.some.injEq, Prod.mk.injEq] at H
   obtain ⟨rfl, rfl⟩ := H
   go_enter Tryd.func61, Tryd.ntmps61
   go_wp2_with (first | ((with_reducible refine gate_dst (N := 3) rfl ?_); (try (refine gate_guard (by rfl) ?_; dsimp only)); refine box_event rfl (N := 3) rfl (cs := #[.string a0_0, .slice A0_1 l0_1.length c0_1, .slice A0_2 l0_2.length c0_2, .slice A0_3 l0_3.length c0_3, .slice A0_4 l0_4.length c0_4]) (t := 65) gs ?_; intro gb913 hg w7 hbox hb; have BK913 := am (hbox); have GW913 := gw hg HB; have GE913 := gw hg HB; replace HB := sb HB hb; clear hb hbox hg; obtain ⟨Z8_0, Z8_1, Z8_2, Z8_3, Z8_4, Y8_0, Y8_1, Y8_2, Y8_3, Y8_4⟩ := bq5 BK913) | ((with_reducible refine gate_callee (f := 85) rfl ?_); refine goesL_ (some 18) rfl rfl Tryd.func85 (by kernel_rfl) rfl #[.agg #[.string a0_0, .slice A0_1 l0_1.length c0_1, .slice A0_2 l0_2.length c0_2, .slice A0_3 l0_3.length c0_3, .slice A0_4 l0_4.length c0_4], .slice A1 l1.length c1] rfl ar ?_; (with_reducible refine (vellumref03_Admits.calls k a0_0 _ _ l0_1 _ _ l0_2 _ _ l0_3 _ _ l0_4 _ _ l1 t914 _ (Kd.cb HR0_1 HB) HC0_1.out (Kd.cb HR0_2 HB) HC0_2.out (Kd.cb HR0_3 HB) HC0_3.out (Kd.cb HR0_4 HB) HC0_4.out (Kd.cb HR1 HB) HC1.out (Glob.below HG.out (bl HB)) A4.out).mono ?_); rintro e w9 ⟨rfl, hb⟩; refine ⟨_, rfl, ?_⟩; replace BK913 := kb BK913 hb; replace HB := sb HB hb; (try clear hb); (try clear hb2 hk hi)))
   go_ret2
   exact ⟨_, er, by first | exact Kd.R_nil _ _ _ _ _ | exact Kd.N_nil _ _ _ _ _ | exact Kd.V_nil _ _ _ _ _ | exact Kd.Q_nil _ _ _ _ _ | exact Kd.S_nil _ _ _ _ _, bl HB⟩
  ·rw [if_neg c6] at H
   have c6b0 : decide (65536 < (a2.size : Int)) = false := decide_eq_false c6
   have c6b1 : decide (65536 < a2.size) = false := decide_eq_false (by omega)
   clear c6
   replace H := Option.bind_eq_some_iff.mp H
   obtain ⟨t915, A100, H⟩ := H
   replace H : (vellumref04_Apply.l0 k l1 a2 t915 (-1) 0 a0_0 l0_1 l0_2 l0_3 l0_4) = some (r1, r2) := H
   have A10 := am A100
   clear A100
   have H' := am H
   clear H
   go_enter Tryd.func61, Tryd.ntmps61
   go_wp2_with (first | ((with_reducible refine gate_dst (N := 3) rfl ?_); (try (refine gate_guard (by rfl) ?_; dsimp only)); refine box_event rfl (N := 3) rfl (cs := #[.string a0_0, .slice A0_1 l0_1.length c0_1, .slice A0_2 l0_2.length c0_2, .slice A0_3 l0_3.length c0_3, .slice A0_4 l0_4.length c0_4]) (t := 65) gs ?_; intro gb913 hg w11 hbox hb; have BK913 := am (hbox); have GW913 := gw hg HB; have GE913 := gw hg HB; replace HB := sb HB hb; clear hb hbox hg; obtain ⟨Z12_0, Z12_1, Z12_2, Z12_3, Z12_4, Y12_0, Y12_1, Y12_2, Y12_3, Y12_4⟩ := bq5 BK913) | ((with_reducible refine gate_callee (f := 85) rfl ?_); refine goesL_ (some 18) rfl rfl Tryd.func85 (by kernel_rfl) rfl #[.agg #[.string a0_0, .slice A0_1 l0_1.length c0_1, .slice A0_2 l0_2.length c0_2, .slice A0_3 l0_3.length c0_3, .slice A0_4 l0_4.length c0_4], .slice A1 l1.length c1] rfl ar ?_; (with_reducible refine (vellumref03_Admits.calls k a0_0 _ _ l0_1 _ _ l0_2 _ _ l0_3 _ _ l0_4 _ _ l1 t914 _ (Kd.cb HR0_1 HB) HC0_1.out (Kd.cb HR0_2 HB) HC0_2.out (Kd.cb HR0_3 HB) HC0_3.out (Kd.cb HR0_4 HB) HC0_4.out (Kd.cb HR1 HB) HC1.out (Glob.below HG.out (bl HB)) A4.out).mono ?_); rintro e w13 ⟨rfl, hb⟩; refine ⟨_, rfl, ?_⟩; replace BK913 := kb BK913 hb; replace HB := sb HB hb; (try clear hb); (try clear hb2 hk hi)) | ((with_reducible refine gate_callee (f := 51) rfl ?_); refine goesL_ (some 26) rfl rfl Tryd.func51 (by kernel_rfl) rfl #[.slice A1 l1.length c1] rfl ar ?_; (with_reducible refine (vellumref01_Row.calls k _ _ l1 t915 _ (Kd.cb HR1 HB) HC1.out A10.out).mono ?_); rintro e w14 ⟨v916, rfl, ho0, hb⟩; refine ⟨_, rfl, ?_⟩; have n0_ := am (Kd.R_lower ho0 (below_size (bl HB))); have n1_ := kb BK913 hb; have n2_ := sb HB hb; clear BK913; clear HB; have HO917 := n0_; have BK913 := n1_; have HB := n2_; clear n0_ n1_ n2_; (try clear hb); (try clear hb2 hk hi); (try clear ho0)))
   go_loopg [10, 11] k (fun kq v10 v11 w' => ∃ (x9_1 : List (S50)) (x10_1 : Int) (x11_1 : Int), v10 = .int .i64 x10_1 ∧ v11 = .int .i64 x11_1 ∧ Aside0 (vellumref04_Apply.l0 kq l1 a2 x9_1 x10_1 x11_1 a0_0 l0_1 l0_2 l0_3 l0_4 = some (r1, r2)) ∧ Aside0 (kq ≤ k) ∧ Aside0 (Kd.R k50 50 w' w.heap.size (fun _ => True) v916 x9_1) ∧ Aside0 (w'.heap[gb913]? = some (.cells #[.string a0_0, (.slice A0_1 l0_1.length c0_1), (.slice A0_2 l0_2.length c0_2), (.slice A0_3 l0_3.length c0_3), (.slice A0_4 l0_4.length c0_4)] 65 (0, 0))) ∧ Aside0 (Below w.heap.size w w'))
   case atStart => exact ⟨(t915), ((-1)), (0), eb, eb, H', ⟨Nat.le_refl _⟩, ⟨Kd.rr HO917.out⟩, ⟨bk BK913⟩, ⟨bl HB⟩⟩
   case round =>
    clear H'
    (try clear c1); (try clear p2); (try clear c5); (try clear c5b0 c5b1); (try clear c6); (try clear c6b0 c6b1); (try clear c8); (try clear Z12_0 Z12_1 Z12_2 Z12_3 Z12_4); (try clear Z8_0 Z8_1 Z8_2 Z8_3 Z8_4); (try clear Y12_0 Y12_1 Y12_2 Y12_3 Y12_4); (try clear Y8_0 Y8_1 Y8_2 Y8_3 Y8_4)
    obtain ⟨x9_1, x10_1, x11_1, rfl, rfl, HA, HK1, HO_9, BK913, HB⟩ := hrel
    cases gk with
    | zero => exact absurd HA.out (by simp [vellumref04_Apply.l0])
    | succ k1 =>
     have H := HA.out
     clear HA
     simp only [vellumref04_Apply.l0] at H
     by_cases c15 : x11_1 < (a2.size : Int)
     ·rw [if_pos c15] at H
      have c15b0 : decide (x11_1 < (a2.size : Int)) = true := decide_eq_true c15
      clear c15
      by_cases c16 : 0 ≤ x11_1
      ·rw [if_pos c16] at H
       have c16b0 := eq_true c16
       have c16b1 : decide (0 ≤ x11_1) = true := decide_eq_true c16
       clear c16
       by_cases c17 : x11_1 ≤ (a2.size : Int)
       ·rw [if_pos c17] at H
        have c17b0 := eq_true c17
        have c17b1 : decide (x11_1 ≤ (a2.size : Int)) = true := decide_eq_true c17
        clear c17
        replace H := Option.bind_eq_some_iff.mp H
        obtain ⟨⟨t919, t920⟩, A180, H⟩ := H
        replace H : (if t920 = 0 then (vellumref04_Apply.j1 k1 l1 a2 x9_1 x10_1 x11_1 t919 t920 true a0_0 l0_1 l0_2 l0_3 l0_4) else (vellumref04_Apply.j1 k1 l1 a2 x9_1 x10_1 x11_1 t919 t920 (decide (t919 ≥ (IntKind.u64.wrap (wrap64 ((wrap64 ((l1.length : Int) - x10_1)) - 1))))) a0_0 l0_1 l0_2 l0_3 l0_4)) = some (r1, r2) := H
        have A18 := am A180
        clear A180
        have HC19 := am H
        clear H
        go_upto_region 11 with (first | ((with_reducible refine gate_callee (f := 96) rfl ?_); refine goesL_ (some 35) rfl rfl Tryd.func96 (by kernel_rfl) rfl #[.string (a2.extract (x11_1 : Int).toNat a2.size)] rfl ar ?_; (with_reducible refine (vellumref04_number.calls k1 (a2.extract (x11_1 : Int).toNat a2.size) t919 t920 _ A18.out).mono ?_); rintro e w' ⟨rfl, ⟨nd, rfl⟩⟩; refine ⟨_, rfl, ?_⟩))
        (try simp only [Act.put, List.setIfInBounds_toArray, List.set_cons_zero, List.set_cons_succ])
        go_cut [49] (fun v49 wc => ∃ (kq : Nat) (x49_18 : Bool), v49 = .bool x49_18 ∧ Aside0 (vellumref04_Apply.j1 kq l1 a2 x9_1 x10_1 x11_1 t919 t920 x49_18 a0_0 l0_1 l0_2 l0_3 l0_4 = some (r1, r2)) ∧ Aside0 (kq ≤ k1) ∧ Aside0 (Kd.R k50 50 wc w.heap.size (fun _ => True) v916 x9_1) ∧ Aside0 (wc.heap[gb913]? = some (.cells #[.string a0_0, (.slice A0_1 l0_1.length c0_1), (.slice A0_2 l0_2.length c0_2), (.slice A0_3 l0_3.length c0_3), (.slice A0_4 l0_4.length c0_4)] 65 (0, 0))) ∧ Aside0 (Below w.heap.size w wc))
        case first =>
         have H := HC19.out
         clear HC19
         by_cases c20 : t920 = 0
         ·rw [if_pos c20] at H
          have c20b0 : (t920 == 0) = true := beq_iff_eq.mpr c20
          have c20b1 : (t920 != 0) = false := bne_eq_false_iff_eq.mpr c20
          clear c20
          (first | rw [c20b0] | (simp only [i64_w, i32_w]; rw [c20b0]) | skip)
          have H' := am H
          clear H
          go_wp2
          go_meet
          case rel => exact ⟨_, (true), eb, H', ⟨by have := HK1.out; first | omega | exact Nat.le_refl _⟩, ⟨Kd.rr HO_9.out⟩, ⟨bk BK913⟩, ⟨bl HB⟩⟩
         ·rw [if_neg c20] at H
          have c20b0 : (t920 == 0) = false := beq_eq_false_iff_ne.mpr c20
          have c20b1 : (t920 != 0) = true := bne_iff_ne.mpr c20
          (first | rw [c20b0] | (simp only [i64_w, i32_w]; rw [c20b0]) | skip)
          have H' := am H
          clear H
          go_wp2
          go_meet
          case rel => exact ⟨_, (decide (t919 ≥ (IntKind.u64.wrap (wrap64 ((wrap64 ((l1.length : Int) - x10_1)) - 1))))), eb, H', ⟨by have := HK1.out; first | omega | exact Nat.le_refl _⟩, ⟨Kd.rr HO_9.out⟩, ⟨bk BK913⟩, ⟨bl HB⟩⟩
        case rest =>
         clear HC19
         (try clear c1); (try clear c2); (try clear p2); (try clear c5); (try clear c5b0 c5b1); (try clear c6); (try clear c6b0 c6b1); (try clear p6); (try clear c8); (try clear c9); (try clear c15); (try clear c15b0); (try clear c16); (try clear c16b0 c16b1); (try clear c17); (try clear c17b0 c17b1); (try clear c20); (try clear c20b0 c20b1); (try clear Z12_0 Z12_1 Z12_2 Z12_3 Z12_4); (try clear Z8_0 Z8_1 Z8_2 Z8_3 Z8_4); (try clear Y12_0 Y12_1 Y12_2 Y12_3 Y12_4); (try clear Y8_0 Y8_1 Y8_2 Y8_3 Y8_4); (try clear p2)
         obtain ⟨kq, x49_18, rfl, HA, HJ18, HO_9, BK913, HB⟩ := hcut
         cases kq with
         | zero => exact absurd HA.out (by simp [vellumref04_Apply.j1])
         | succ kj18 =>
          have H := HA.out
          clear HA
          simp only [vellumref04_Apply.j1] at H
          by_cases c21 : x49_18 = true
          ·subst c21
           have H1 : (some (([] : List (S50)), 41)) = some (r1, r2) := by rw [if_pos rfl] at H; exact H
           clear H
           have H := H1
           clear H1
           simp only [Option.some.injEq, Prod.mk.injEq] at H
           obtain ⟨rfl, rfl⟩ := H
           go_wp2
           go_ret2
           exact ⟨_, er, by first | exact Kd.R_nil _ _ _ _ _ | exact Kd.N_nil _ _ _ _ _ | exact Kd.V_nil _ _ _ _ _ | exact Kd.Q_nil _ _ _ _ _ | exact Kd.S_nil _ _ _ _ _, bl HB⟩
          ·replace c21 := Bool.eq_false_iff.mpr c21
           subst c21
           have H1 : (if 0 ≤ (wrap64 ((wrap64 (x10_1 + 1)) + (wrap64 (t919)))) then (if (wrap64 ((wrap64 (x10_1 + 1)) + (wrap64 (t919)))) < (l0_1.length : Int) then (if 0 ≤ (wrap64 (x11_1 + t920)) then (if (wrap64 (x11_1 + t920)) ≤ (a2.size : Int) then ((vellumref04_values.f kj18 (([(rd_T105 l0_1 (wrap64 ((wrap64 (x10_1 + 1)) + (wrap64 (t919))))).f1] : List Int)) (a2.extract ((wrap64 (x11_1 + t920)) : Int).toNat a2.size)).bind fun bt925 => (if bt925.2 < 0 then (some (([] : List (S50)), 41)) else (if 0 < (bt925.1.length : Int) then (if (wrap64 ((wrap64 (x10_1 + 1)) + (wrap64 (t919)))) < (l1.length : Int) then ((vellumref01_Same.f ((rd_T50 bt925.1 0).f0) ((rd_T50 bt925.1 0).f1) ((rd_T50 bt925.1 0).f2) ((rd_T50 bt925.1 0).f3) ((rd_T50 l1 (wrap64 ((wrap64 (x10_1 + 1)) + (wrap64 (t919))))).f0) ((rd_T50 l1 (wrap64 ((wrap64 (x10_1 + 1)) + (wrap64 (t919))))).f1) ((rd_T50 l1 (wrap64 ((wrap64 (x10_1 + 1)) + (wrap64 (t919))))).f2) ((rd_T50 l1 (wrap64 ((wrap64 (x10_1 + 1)) + (wrap64 (t919))))).f3)).bind fun t931 => (if t931 = true then (some (([] : List (S50)), 41)) else (if (wrap64 ((wrap64 (x10_1 + 1)) + (wrap64 (t919)))) < (x9_1.length : Int) then (vellumref04_Apply.l0 kj18 l1 a2 (x9_1.set ((wrap64 ((wrap64 (x10_1 + 1)) + (wrap64 (t919)))) : Int).toNat (⟨(rd_T50 bt925.1 0).f0, (rd_T50 bt925.1 0).f1, (rd_T50 bt925.1 0).f2, (rd_T50 bt925.1 0).f3⟩ : S50)) (wrap64 ((wrap64 (x10_1 + 1)) + (wrap64 (t919)))) (wrap64 ((wrap64 (x11_1 + t920)) + bt925.2)) a0_0 l0_1 l0_2 l0_3 l0_4) else (none)))) else (none)) else (none)))) else (none)) else (none)) else (none)) else (none)) = some (r1, r2) := by rw [if_neg (show ¬ (false = true) by decide)] at H; exact H
           clear H
           have H := H1
           clear H1
           obtain ⟨ji22, hji22⟩ : ∃ j_ : Int, (wrap64 ((wrap64 (x10_1 + 1)) + (wrap64 (t919)))) = j_ := ⟨_, rfl⟩
           replace H : (if 0 ≤ (ji22) then (if (ji22) < (l0_1.length : Int) then (if 0 ≤ (wrap64 (x11_1 + t920)) then (if (wrap64 (x11_1 + t920)) ≤ (a2.size : Int) then ((vellumref04_values.f kj18 (([(rd_T105 l0_1 (ji22)).f1] : List Int)) (a2.extract ((wrap64 (x11_1 + t920)) : Int).toNat a2.size)).bind fun bt925 => (if bt925.2 < 0 then (some (([] : List (S50)), 41)) else (if 0 < (bt925.1.length : Int) then (if (ji22) < (l1.length : Int) then ((vellumref01_Same.f ((rd_T50 bt925.1 0).f0) ((rd_T50 bt925.1 0).f1) ((rd_T50 bt925.1 0).f2) ((rd_T50 bt925.1 0).f3) ((rd_T50 l1 (ji22)).f0) ((rd_T50 l1 (ji22)).f1) ((rd_T50 l1 (ji22)).f2) ((rd_T50 l1 (ji22)).f3)).bind fun t931 => (if t931 = true then (some (([] : List (S50)), 41)) else (if (ji22) < (x9_1.length : Int) then (vellumref04_Apply.l0 kj18 l1 a2 (x9_1.set ((ji22) : Int).toNat (⟨(rd_T50 bt925.1 0).f0, (rd_T50 bt925.1 0).f1, (rd_T50 bt925.1 0).f2, (rd_T50 bt925.1 0).f3⟩ : S50)) ji22 (wrap64 ((wrap64 (x11_1 + t920)) + bt925.2)) a0_0 l0_1 l0_2 l0_3 l0_4) else (none)))) else (none)) else (none)))) else (none)) else (none)) else (none)) else (none)) = some (r1, r2) := by first | (rw [hji22] at H; exact H) | (simp only [hji22] at H ⊢; exact H)
           have hji22w : (IntKind.i64.wrap ((wrap64 (x10_1 + 1)) + (wrap64 (t919)))) = ji22 := (i64_w _).trans hji22
           by_cases c23 : 0 ≤ (ji22)
           ·rw [if_pos c23] at H
            have c23b0 : decide (0 ≤ (ji22)) = true := decide_eq_true c23
            clear c23
            by_cases c24 : (ji22) < (l0_1.length : Int)
            ·rw [if_pos c24] at H
             have c24b0 : decide ((ji22) < (l0_1.length : Int)) = true := decide_eq_true c24
             clear c24
             obtain ⟨y922, hy922⟩ : ∃ y_ : List Int, y_ = (([(rd_T105 l0_1 (ji22)).f1] : List Int)) := ⟨_, rfl⟩
             replace H : (if 0 ≤ (wrap64 (x11_1 + t920)) then (if (wrap64 (x11_1 + t920)) ≤ (a2.size : Int) then ((vellumref04_values.f kj18 y922 (a2.extract ((wrap64 (x11_1 + t920)) : Int).toNat a2.size)).bind fun bt925 => (if bt925.2 < 0 then (some (([] : List (S50)), 41)) else (if 0 < (bt925.1.length : Int) then (if (ji22) < (l1.length : Int) then ((vellumref01_Same.f ((rd_T50 bt925.1 0).f0) ((rd_T50 bt925.1 0).f1) ((rd_T50 bt925.1 0).f2) ((rd_T50 bt925.1 0).f3) ((rd_T50 l1 (ji22)).f0) ((rd_T50 l1 (ji22)).f1) ((rd_T50 l1 (ji22)).f2) ((rd_T50 l1 (ji22)).f3)).bind fun t931 => (if t931 = true then (some (([] : List (S50)), 41)) else (if (ji22) < (x9_1.length : Int) then (vellumref04_Apply.l0 kj18 l1 a2 (x9_1.set ((ji22) : Int).toNat (⟨(rd_T50 bt925.1 0).f0, (rd_T50 bt925.1 0).f1, (rd_T50 bt925.1 0).f2, (rd_T50 bt925.1 0).f3⟩ : S50)) ji22 (wrap64 ((wrap64 (x11_1 + t920)) + bt925.2)) a0_0 l0_1 l0_2 l0_3 l0_4) else (none)))) else (none)) else (none)))) else (none)) else (none)) = some (r1, r2) := by first | (rw [hy922]; with_reducible exact H) | (have H2_ := (Option.bind_some _ _).symm.trans H; rw [hy922]; with_reducible exact H2_) | (have H2_ := (Option.bind_some _ _).symm.trans H; with_reducible exact H2_) | with_reducible exact H | (rw [hy922]; exact H) | exact H
             have Ny922 := am hy922
             clear hy922
             obtain ⟨ji25, hji25⟩ : ∃ j_ : Int, (wrap64 (x11_1 + t920)) = j_ := ⟨_, rfl⟩
             replace H : (if 0 ≤ (ji25) then (if (ji25) ≤ (a2.size : Int) then ((vellumref04_values.f kj18 y922 (a2.extract ((ji25) : Int).toNat a2.size)).bind fun bt925 => (if bt925.2 < 0 then (some (([] : List (S50)), 41)) else (if 0 < (bt925.1.length : Int) then (if (ji22) < (l1.length : Int) then ((vellumref01_Same.f ((rd_T50 bt925.1 0).f0) ((rd_T50 bt925.1 0).f1) ((rd_T50 bt925.1 0).f2) ((rd_T50 bt925.1 0).f3) ((rd_T50 l1 (ji22)).f0) ((rd_T50 l1 (ji22)).f1) ((rd_T50 l1 (ji22)).f2) ((rd_T50 l1 (ji22)).f3)).bind fun t931 => (if t931 = true then (some (([] : List (S50)), 41)) else (if (ji22) < (x9_1.length : Int) then (vellumref04_Apply.l0 kj18 l1 a2 (x9_1.set ((ji22) : Int).toNat (⟨(rd_T50 bt925.1 0).f0, (rd_T50 bt925.1 0).f1, (rd_T50 bt925.1 0).f2, (rd_T50 bt925.1 0).f3⟩ : S50)) ji22 (wrap64 ((ji25) + bt925.2)) a0_0 l0_1 l0_2 l0_3 l0_4) else (none)))) else (none)) else (none)))) else (none)) else (none)) = some (r1, r2) := by first | (rw [hji25] at H; exact H) | (simp only [hji25] at H ⊢; exact H)
             have hji25w : (IntKind.i64.wrap (x11_1 + t920)) = ji25 := (i64_w _).trans hji25
             by_cases c26 : 0 ≤ (ji25)
             ·rw [if_pos c26] at H
              have c26b0 := eq_true c26
              have c26b1 : decide (0 ≤ (ji25)) = true := decide_eq_true c26
              clear c26
              by_cases c27 : (ji25) ≤ (a2.size : Int)
              ·rw [if_pos c27] at H
               have c27b0 := eq_true c27
               have c27b1 : decide ((ji25) ≤ (a2.size : Int)) = true := decide_eq_true c27
               clear c27
               replace H := Option.bind_eq_some_iff.mp H
               obtain ⟨⟨t925, t926⟩, A280, H⟩ := H
               replace H : (if t926 < 0 then (some (([] : List (S50)), 41)) else (if 0 < (t925.length : Int) then (if (ji22) < (l1.length : Int) then ((vellumref01_Same.f ((rd_T50 t925 0).f0) ((rd_T50 t925 0).f1) ((rd_T50 t925 0).f2) ((rd_T50 t925 0).f3) ((rd_T50 l1 (ji22)).f0) ((rd_T50 l1 (ji22)).f1) ((rd_T50 l1 (ji22)).f2) ((rd_T50 l1 (ji22)).f3)).bind fun t931 => (if t931 = true then (some (([] : List (S50)), 41)) else (if (ji22) < (x9_1.length : Int) then (vellumref04_Apply.l0 kj18 l1 a2 (x9_1.set ((ji22) : Int).toNat (⟨(rd_T50 t925 0).f0, (rd_T50 t925 0).f1, (rd_T50 t925 0).f2, (rd_T50 t925 0).f3⟩ : S50)) ji22 (wrap64 ((ji25) + t926)) a0_0 l0_1 l0_2 l0_3 l0_4) else (none)))) else (none)) else (none))) = some (r1, r2) := H
               have A28 := am A280
               clear A280
               by_cases c29 : t926 < 0
               ·rw [if_pos c29] at H
                have c29b0 : decide (t926 < 0) = true := decide_eq_true c29
                clear c29
                simp only [Option.some.injEq, Prod.mk.injEq] at H
                obtain ⟨rfl, rfl⟩ := H
                try go_wp2
                have n0_ := am (Kd.R_drew HO_9.out)
                have n1_ := am (blk_drew BK913.out)
                have n2_ := am (below_drew1 HB.out)
                clear HO_9
                clear BK913
                clear HB
                have HO_9 := n0_
                have BK913 := n1_
                have HB := n2_
                clear n0_ n1_ n2_
                have p921 : 0 ≤ ((ji22) : Int) := oda
                have q921 : (ji22) < (l0_1.length : Int) := oda
                obtain ⟨ad921, e921, hx921_0, hx921_1, hx921_2, hx921_3, hx921_4, hx921_5, hx921_6⟩ := at_T105 HR0_1.out (ji22) p921 q921
                have hw921_6 := hx921_6
                have hw921_5 := hx921_5
                have hw921_4 := hx921_4
                have hw921_3 := hx921_3
                have hw921_2 := hx921_2
                have hw921_1 := hx921_1
                have hw921_0 := hx921_0
                cases e921
                replace hx921_0 := hc HB hx921_0
                replace hx921_1 := hc HB hx921_1
                replace hx921_2 := hc HB hx921_2
                replace hx921_3 := hc HB hx921_3
                replace hx921_4 := hc HB hx921_4
                replace hx921_5 := hc HB hx921_5
                replace hx921_6 := hc HB hx921_6
                replace p921 := eq_true p921
                replace q921 := eq_true q921
                refine start_ (n := 16) (S := fun w' => w'.cell? ⟨gb913, 0, none⟩ = some (.string a0_0) ∧ w'.cell? ⟨gb913, 1, none⟩ = some (.slice (some ad921) l0_1.length c0_1) ∧ w'.cell? ⟨gb913, 2, none⟩ = some (.slice A0_2 l0_2.length c0_2) ∧ w'.cell? ⟨gb913, 3, none⟩ = some (.slice A0_3 l0_3.length c0_3) ∧ w'.cell? ⟨gb913, 4, none⟩ = some (.slice A0_4 l0_4.length c0_4) ∧ w'.cell? (ad921.add (((ji22)).toNat * 7)) = some (.string ((rd_T105 l0_1 (ji22)).f0)) ∧ w'.cell? ⟨(ad921.add (((ji22)).toNat * 7)).block, (ad921.add (((ji22)).toNat * 7)).off + 1, none⟩ = some (.int .i64 ((rd_T105 l0_1 (ji22)).f1)) ∧ w'.cell? ⟨(ad921.add (((ji22)).toNat * 7)).block, (ad921.add (((ji22)).toNat * 7)).off + 2, none⟩ = some (.bool ((rd_T105 l0_1 (ji22)).f2)) ∧ w'.cell? ⟨(ad921.add (((ji22)).toNat * 7)).block, (ad921.add (((ji22)).toNat * 7)).off + 3, none⟩ = some (.int .i64 ((rd_T105 l0_1 (ji22)).f3.f0)) ∧ w'.cell? ⟨(ad921.add (((ji22)).toNat * 7)).block, (ad921.add (((ji22)).toNat * 7)).off + 4, none⟩ = some (.int .i64 ((rd_T105 l0_1 (ji22)).f3.f1)) ∧ w'.cell? ⟨(ad921.add (((ji22)).toNat * 7)).block, (ad921.add (((ji22)).toNat * 7)).off + 5, none⟩ = some (.float .f64 ((rd_T105 l0_1 (ji22)).f3.f2)) ∧ w'.cell? ⟨(ad921.add (((ji22)).toNat * 7)).block, (ad921.add (((ji22)).toNat * 7)).off + 6, none⟩ = some (.string ((rd_T105 l0_1 (ji22)).f3.f3))) (ds := []) (bb 0 16) (by kernel_rfl) rfl rfl ⟨(blk_cell BK913.out 0).trans rfl, (blk_cell BK913.out 1).trans rfl, (blk_cell BK913.out 2).trans rfl, (blk_cell BK913.out 3).trans rfl, (blk_cell BK913.out 4).trans rfl, (hc HB hw921_0), (hc HB hw921_1), (hc HB hw921_2), (hc HB hw921_3), (hc HB hw921_4), (hc HB hw921_5), (hc HB hw921_6)⟩ (fun hHeld => ?_); refine with_tabW vellumref04_Apply.tab15 vellumref04_Apply.bits15 (fun HT_ HW_ => ?_)
                generalize wc.drew = w30 at HO_9 BK913 HB hx921_0 hx921_1 hx921_2 hx921_3 hx921_4 hx921_5 hx921_6 hHeld ⊢
                refine pu HT_ 0 (some 59) (bb 1 16) ?_
                refine pu HT_ 2 (some 61) (bs 16 5) ?_
                refine pu HT_ 7 (some 66) (bs 16 133) ?_
                refine pu HT_ 8 (some 67) (bs 16 389) ?_
                refine pu HT_ 9 (some 68) (bs 16 901) ?_
                refine tk HT_ HW_ hHeld 1 (some 60) (bs 16 903) ?_
                refine pu HT_ 3 (some 62) (bs 16 911) ?_
                refine pu HT_ 4 (some 63) (bs 16 927) ?_
                refine tk HT_ HW_ hHeld 5 (some 64) (bs 16 959) ?_
                refine one_ (i := 6) (N := some 65) (bb 10 16) rfl rfl (one_of HT_.out (by kernel_rfl)) (by decide) (fun K hK => ?_)
                refine Kd.R_lit_step (Kd.int .i64) _ 3 ?hg (N := 65) ?hd (xs := ([(rd_T105 l0_1 (ji22)).f1] : List Int)) (inner := [.int .i64 ((rd_T105 l0_1 (ji22)).f1)]) (ok := fun _ => True) (okp := fun _ => True) ?hr ?hp (fun _ hk => hk) trivial (Below.refl _ _) (Nat.le_refl _) (by simp) ?_; (case hd => rfl); (case hg => rfl); (case hr => first | (go_simp; done) | (go_simp; rfl)); (case hp => exact (Reps.one (show Kd.M (Kd.int .i64) _ _ _ ((rd_T105 l0_1 (ji22)).f1) [.int .i64 ((rd_T105 l0_1 (ji22)).f1)] from rfl) (Reps.none _ _)))
                intro v923 w31 ho32 hb hg_ hnew_
                clear hg_ hnew_
                (first | rw [← Ny922.out] at ho32 | (simp only [Int.reduceToNat] at ho32; rw [← Ny922.out] at ho32))
                have n0_ := am (Kd.R_below (Kd.rr HO_9.out) hb)
                have n1_ := am (Kd.R_lower ho32 (below_size (bl HB)))
                have n2_ := kb BK913 hb
                have n3_ := sb HB hb
                clear HO_9
                clear BK913
                clear HB
                have HO_9 := n0_
                have HO924 := n1_
                have BK913 := n2_
                have HB := n3_
                clear n0_ n1_ n2_ n3_
                clear hb ho32
                obtain ⟨Ao33, co33, eo33⟩ := Kd.R_slice HO924.out
                (first | subst eo33 | (injection eo33 with f1_ f2_ f3_; have f4_ := f1_.symm; have f5_ := f3_.symm; clear f1_ f2_ f3_; subst f4_; subst f5_))
                refine hK.out _ _ ⟨(blk_cell BK913.out 0).trans rfl, (blk_cell BK913.out 1).trans rfl, (blk_cell BK913.out 2).trans rfl, (blk_cell BK913.out 3).trans rfl, (blk_cell BK913.out 4).trans rfl, (hc HB hw921_0), (hc HB hw921_1), (hc HB hw921_2), (hc HB hw921_3), (hc HB hw921_4), (hc HB hw921_5), (hc HB hw921_6)⟩ (fun hHeld => ?_)
                clear hK K
                refine norm_ (a' := ?_) ?_ ?_
                rotate_left
                ·show Act.put _ (some 65) _ = _
                 simp only [Act.put, List.setIfInBounds_toArray, List.set_cons_zero, List.set_cons_succ, i64_w, i32_w]
                 rfl
                refine one_ (i := 10) (N := some 69) (bb 11 16) rfl rfl (one_of HT_.out (by kernel_rfl)) (by decide) (fun K hK => ?_)
                refine goes_ Tryd.func94 (by kernel_rfl) rfl #[.slice Ao33 y922.length co33, .string (a2.extract ((ji25) : Int).toNat a2.size)] (by rfl) rfl rfl (by (try simp only [List.map_toArray, List.map_cons, List.map_nil]); first | done | (simp only [hji25]; rfl) | rfl | (simp only [List.length_drop, List.length_take]; rfl)) ?_
                with_reducible refine (vellumref04_values.calls kj18 _ _ y922 (a2.extract ((ji25) : Int).toNat a2.size) t925 t926 _ ?side1 ?side2 A28.out).mono ?_
                (case side1 => repeat (first | exact (Kd.R_reads' HO924.out).2.2 | (with_reducible refine Kd.C_alloc ?_ _) | (with_reducible refine Kd.C_drewN ?_ _) | (with_reducible refine Kd.C_drew ?_)))
                (case side2 => exact (Kd.R_reads' HO924.out).2.1)
                rintro e w34 ⟨v927, rfl, ho0, hb⟩
                refine ⟨_, rfl, ?_⟩
                have n0_ := am (Kd.R_elder' (Kd.rr HO_9.out) (Kd.R_base ho0) hb)
                have n1_ := am (Kd.R_below (Kd.rr HO924.out) hb)
                have n2_ := am (Kd.R_lower (Kd.R_new' ho0 (Kd.R_lt (Kd.rr HO_9.out))) (below_size (bl HB)))
                have n3_ := kb BK913 hb
                have n4_ := sb HB hb
                clear HO_9
                clear HO924
                clear BK913
                clear HB
                have HO_9 := n0_
                have HO924 := n1_
                have HO928 := n2_
                have BK913 := n3_
                have HB := n4_
                clear n0_ n1_ n2_ n3_ n4_
                (try clear hb)
                (try clear hb2)
                (try clear hk)
                (try clear hi)
                (try clear ho0)
                refine hK.out _ _ ⟨(blk_cell BK913.out 0).trans rfl, (blk_cell BK913.out 1).trans rfl, (blk_cell BK913.out 2).trans rfl, (blk_cell BK913.out 3).trans rfl, (blk_cell BK913.out 4).trans rfl, (hc HB hw921_0), (hc HB hw921_1), (hc HB hw921_2), (hc HB hw921_3), (hc HB hw921_4), (hc HB hw921_5), (hc HB hw921_6)⟩ (fun hHeld => ?_)
                clear hK K
                refine norm_ (a' := ?_) ?_ ?_
                rotate_left
                ·show Act.put _ (some 69) _ = _
                 simp only [Act.put, List.setIfInBounds_toArray, List.set_cons_zero, List.set_cons_succ, i64_w, i32_w]
                 rfl
                refine pu HT_ 11 (some 58) (bb 12 16) ?_
                refine pu HT_ 12 (some 70) (bb 13 16) ?_
                refine pu HT_ 13 (some 71) (bb 14 16) ?_
                refine pu HT_ 14 (some 14) (bb 15 16) ?_
                refine pu HT_ 15 (some 15) (bb 16 16) ?_
                refine done_ (done_of HT_.out (by kernel_rfl)) ?_
                try go_wp2
                have n0_ := am (Kd.R_drew HO_9.out)
                have n1_ := am (Kd.R_drew HO924.out)
                have n2_ := am (Kd.R_drew HO928.out)
                have n3_ := am (blk_drew BK913.out)
                have n4_ := am (below_drew1 HB.out)
                clear HO_9
                clear HO924
                clear HO928
                clear BK913
                clear HB
                have HO_9 := n0_
                have HO924 := n1_
                have HO928 := n2_
                have BK913 := n3_
                have HB := n4_
                clear n0_ n1_ n2_ n3_ n4_
                refine start_ (n := 12) (S := fun w' => True) (ds := []) (bb 0 12) (by kernel_rfl) rfl rfl trivial (fun hHeld => ?_); refine with_tabW vellumref04_Apply.tab16 vellumref04_Apply.bits16 (fun HT_ HW_ => ?_)
                generalize w34.drew = w35 at HO_9 HO924 HO928 BK913 HB hHeld ⊢
                refine pu HT_ 0 (some 72) (bb 1 12) ?_
                refine pu HT_ 1 (some 73) (bb 2 12) ?_
                refine pu HT_ 2 (some 74) (bb 3 12) ?_
                refine pure_ (i := 3) (N := some 75) (v := undef) (a' := ?_) (bb 4 12) rfl rfl (any_of HT_.out (by kernel_rfl)) (fun _ _ _ h => h) (Or.inr ⟨by rfl, rfl⟩) ?_ ?_
                rotate_left
                ·simp only [Act.put, List.setIfInBounds_toArray, List.set_cons_zero, List.set_cons_succ, i64_w, i32_w]
                 rfl
                refine pure_ (i := 4) (N := some 76) (v := undef) (a' := ?_) (bb 5 12) rfl rfl (any_of HT_.out (by kernel_rfl)) (fun _ _ _ h => h) (Or.inr ⟨by rfl, rfl⟩) ?_ ?_
                rotate_left
                ·simp only [Act.put, List.setIfInBounds_toArray, List.set_cons_zero, List.set_cons_succ, i64_w, i32_w]
                 rfl
                refine pure_ (i := 5) (N := some 77) (v := undef) (a' := ?_) (bb 6 12) rfl rfl (any_of HT_.out (by kernel_rfl)) (fun _ _ _ h => h) (Or.inr ⟨by rfl, rfl⟩) ?_ ?_
                rotate_left
                ·simp only [Act.put, List.setIfInBounds_toArray, List.set_cons_zero, List.set_cons_succ, i64_w, i32_w]
                 rfl
                refine pure_ (i := 6) (N := some 78) (v := undef) (a' := ?_) (bb 7 12) rfl rfl (any_of HT_.out (by kernel_rfl)) (fun _ _ _ h => h) (Or.inr ⟨by rfl, rfl⟩) ?_ ?_
                rotate_left
                ·simp only [Act.put, List.setIfInBounds_toArray, List.set_cons_zero, List.set_cons_succ, i64_w, i32_w]
                 rfl
                refine pure_ (i := 7) (N := some 79) (v := undef) (a' := ?_) (bb 8 12) rfl rfl (any_of HT_.out (by kernel_rfl)) (fun _ _ _ h => h) (Or.inr ⟨by rfl, rfl⟩) ?_ ?_
                rotate_left
                ·simp only [Act.put, List.setIfInBounds_toArray, List.set_cons_zero, List.set_cons_succ, i64_w, i32_w]
                 rfl
                refine pure_ (i := 8) (N := some 80) (v := undef) (a' := ?_) (bb 9 12) rfl rfl (any_of HT_.out (by kernel_rfl)) (fun _ _ _ h => h) (Or.inr ⟨by rfl, rfl⟩) ?_ ?_
                rotate_left
                ·simp only [Act.put, List.setIfInBounds_toArray, List.set_cons_zero, List.set_cons_succ, i64_w, i32_w]
                 rfl
                refine pure_ (i := 9) (N := some 81) (v := undef) (a' := ?_) (bb 10 12) rfl rfl (any_of HT_.out (by kernel_rfl)) (fun _ _ _ h => h) (Or.inr ⟨by rfl, rfl⟩) ?_ ?_
                rotate_left
                ·simp only [Act.put, List.setIfInBounds_toArray, List.set_cons_zero, List.set_cons_succ, i64_w, i32_w]
                 rfl
                refine pure_ (i := 10) (N := some 82) (v := undef) (a' := ?_) (bb 11 12) rfl rfl (any_of HT_.out (by kernel_rfl)) (fun _ _ _ h => h) (Or.inr ⟨by rfl, rfl⟩) ?_ ?_
                rotate_left
                ·simp only [Act.put, List.setIfInBounds_toArray, List.set_cons_zero, List.set_cons_succ, i64_w, i32_w]
                 rfl
                refine pu HT_ 11 (some 83) (bb 12 12) ?_
                refine done_ (done_of HT_.out (by kernel_rfl)) ?_
                try go_wp2
                go_ret2
                exact ⟨_, by first | rfl | (simp [errW_none, errW_some] <;> rfl) | (simp only [← hji22, ← hji25]; first | rfl | (simp [errW_none, errW_some] <;> rfl)) | (simp [*, errW_none, errW_some] <;> rfl), by first | exact Kd.R_nil _ _ _ _ _ | exact Kd.N_nil _ _ _ _ _ | exact Kd.V_nil _ _ _ _ _ | exact Kd.Q_nil _ _ _ _ _ | exact Kd.S_nil _ _ _ _ _, bl HB⟩
               ·rw [if_neg c29] at H
                have c29b0 : decide (t926 < 0) = false := decide_eq_false c29
                clear c29
                by_cases c36 : 0 < (t925.length : Int)
                ·rw [if_pos c36] at H
                 have c36b0 : decide (0 < (t925.length : Int)) = true := decide_eq_true c36
                 have c36b1 : decide (0 < t925.length) = true := decide_eq_true (by omega)
                 clear c36
                 by_cases c37 : (ji22) < (l1.length : Int)
                 ·rw [if_pos c37] at H
                  have c37b0 : decide ((ji22) < (l1.length : Int)) = true := decide_eq_true c37
                  clear c37
                  replace H := Option.bind_eq_some_iff.mp H
                  obtain ⟨t931, A380, H⟩ := H
                  replace H : (if t931 = true then (some (([] : List (S50)), 41)) else (if (ji22) < (x9_1.length : Int) then (vellumref04_Apply.l0 kj18 l1 a2 (x9_1.set ((ji22) : Int).toNat (⟨(rd_T50 t925 0).f0, (rd_T50 t925 0).f1, (rd_T50 t925 0).f2, (rd_T50 t925 0).f3⟩ : S50)) ji22 (wrap64 ((ji25) + t926)) a0_0 l0_1 l0_2 l0_3 l0_4) else (none))) = some (r1, r2) := H
                  have A38 := am A380
                  clear A380
                  by_cases c39 : t931 = true
                  ·subst c39
                   have H1 : (some (([] : List (S50)), 41)) = some (r1, r2) := by rw [if_pos rfl] at H; exact H
                   clear H
                   have H := H1
                   clear H1
                   simp only [Option.some.injEq, Prod.mk.injEq] at H
                   obtain ⟨rfl, rfl⟩ := H
                   try go_wp2
                   have n0_ := am (Kd.R_drew HO_9.out)
                   have n1_ := am (blk_drew BK913.out)
                   have n2_ := am (below_drew1 HB.out)
                   clear HO_9
                   clear BK913
                   clear HB
                   have HO_9 := n0_
                   have BK913 := n1_
                   have HB := n2_
                   clear n0_ n1_ n2_
                   have p921 : 0 ≤ ((ji22) : Int) := oda
                   have q921 : (ji22) < (l0_1.length : Int) := oda
                   obtain ⟨ad921, e921, hx921_0, hx921_1, hx921_2, hx921_3, hx921_4, hx921_5, hx921_6⟩ := at_T105 HR0_1.out (ji22) p921 q921
                   have hw921_6 := hx921_6
                   have hw921_5 := hx921_5
                   have hw921_4 := hx921_4
                   have hw921_3 := hx921_3
                   have hw921_2 := hx921_2
                   have hw921_1 := hx921_1
                   have hw921_0 := hx921_0
                   cases e921
                   replace hx921_0 := hc HB hx921_0
                   replace hx921_1 := hc HB hx921_1
                   replace hx921_2 := hc HB hx921_2
                   replace hx921_3 := hc HB hx921_3
                   replace hx921_4 := hc HB hx921_4
                   replace hx921_5 := hc HB hx921_5
                   replace hx921_6 := hc HB hx921_6
                   replace p921 := eq_true p921
                   replace q921 := eq_true q921
                   refine start_ (n := 16) (S := fun w' => w'.cell? ⟨gb913, 0, none⟩ = some (.string a0_0) ∧ w'.cell? ⟨gb913, 1, none⟩ = some (.slice (some ad921) l0_1.length c0_1) ∧ w'.cell? ⟨gb913, 2, none⟩ = some (.slice A0_2 l0_2.length c0_2) ∧ w'.cell? ⟨gb913, 3, none⟩ = some (.slice A0_3 l0_3.length c0_3) ∧ w'.cell? ⟨gb913, 4, none⟩ = some (.slice A0_4 l0_4.length c0_4) ∧ w'.cell? (ad921.add (((ji22)).toNat * 7)) = some (.string ((rd_T105 l0_1 (ji22)).f0)) ∧ w'.cell? ⟨(ad921.add (((ji22)).toNat * 7)).block, (ad921.add (((ji22)).toNat * 7)).off + 1, none⟩ = some (.int .i64 ((rd_T105 l0_1 (ji22)).f1)) ∧ w'.cell? ⟨(ad921.add (((ji22)).toNat * 7)).block, (ad921.add (((ji22)).toNat * 7)).off + 2, none⟩ = some (.bool ((rd_T105 l0_1 (ji22)).f2)) ∧ w'.cell? ⟨(ad921.add (((ji22)).toNat * 7)).block, (ad921.add (((ji22)).toNat * 7)).off + 3, none⟩ = some (.int .i64 ((rd_T105 l0_1 (ji22)).f3.f0)) ∧ w'.cell? ⟨(ad921.add (((ji22)).toNat * 7)).block, (ad921.add (((ji22)).toNat * 7)).off + 4, none⟩ = some (.int .i64 ((rd_T105 l0_1 (ji22)).f3.f1)) ∧ w'.cell? ⟨(ad921.add (((ji22)).toNat * 7)).block, (ad921.add (((ji22)).toNat * 7)).off + 5, none⟩ = some (.float .f64 ((rd_T105 l0_1 (ji22)).f3.f2)) ∧ w'.cell? ⟨(ad921.add (((ji22)).toNat * 7)).block, (ad921.add (((ji22)).toNat * 7)).off + 6, none⟩ = some (.string ((rd_T105 l0_1 (ji22)).f3.f3))) (ds := []) (bb 0 16) (by kernel_rfl) rfl rfl ⟨(blk_cell BK913.out 0).trans rfl, (blk_cell BK913.out 1).trans rfl, (blk_cell BK913.out 2).trans rfl, (blk_cell BK913.out 3).trans rfl, (blk_cell BK913.out 4).trans rfl, (hc HB hw921_0), (hc HB hw921_1), (hc HB hw921_2), (hc HB hw921_3), (hc HB hw921_4), (hc HB hw921_5), (hc HB hw921_6)⟩ (fun hHeld => ?_); refine with_tabW vellumref04_Apply.tab15 vellumref04_Apply.bits15 (fun HT_ HW_ => ?_)
                   generalize wc.drew = w40 at HO_9 BK913 HB hx921_0 hx921_1 hx921_2 hx921_3 hx921_4 hx921_5 hx921_6 hHeld ⊢
                   refine pu HT_ 0 (some 59) (bb 1 16) ?_
                   refine pu HT_ 2 (some 61) (bs 16 5) ?_
                   refine pu HT_ 7 (some 66) (bs 16 133) ?_
                   refine pu HT_ 8 (some 67) (bs 16 389) ?_
                   refine pu HT_ 9 (some 68) (bs 16 901) ?_
                   refine tk HT_ HW_ hHeld 1 (some 60) (bs 16 903) ?_
                   refine pu HT_ 3 (some 62) (bs 16 911) ?_
                   refine pu HT_ 4 (some 63) (bs 16 927) ?_
                   refine tk HT_ HW_ hHeld 5 (some 64) (bs 16 959) ?_
                   refine one_ (i := 6) (N := some 65) (bb 10 16) rfl rfl (one_of HT_.out (by kernel_rfl)) (by decide) (fun K hK => ?_)
                   refine Kd.R_lit_step (Kd.int .i64) _ 3 ?hg (N := 65) ?hd (xs := ([(rd_T105 l0_1 (ji22)).f1] : List Int)) (inner := [.int .i64 ((rd_T105 l0_1 (ji22)).f1)]) (ok := fun _ => True) (okp := fun _ => True) ?hr ?hp (fun _ hk => hk) trivial (Below.refl _ _) (Nat.le_refl _) (by simp) ?_; (case hd => rfl); (case hg => rfl); (case hr => first | (go_simp; done) | (go_simp; rfl)); (case hp => exact (Reps.one (show Kd.M (Kd.int .i64) _ _ _ ((rd_T105 l0_1 (ji22)).f1) [.int .i64 ((rd_T105 l0_1 (ji22)).f1)] from rfl) (Reps.none _ _)))
                   intro v923 w41 ho42 hb hg_ hnew_
                   clear hg_ hnew_
                   (first | rw [← Ny922.out] at ho42 | (simp only [Int.reduceToNat] at ho42; rw [← Ny922.out] at ho42))
                   have n0_ := am (Kd.R_below (Kd.rr HO_9.out) hb)
                   have n1_ := am (Kd.R_lower ho42 (below_size (bl HB)))
                   have n2_ := kb BK913 hb
                   have n3_ := sb HB hb
                   clear HO_9
                   clear BK913
                   clear HB
                   have HO_9 := n0_
                   have HO924 := n1_
                   have BK913 := n2_
                   have HB := n3_
                   clear n0_ n1_ n2_ n3_
                   clear hb ho42
                   obtain ⟨Ao43, co43, eo43⟩ := Kd.R_slice HO924.out
                   (first | subst eo43 | (injection eo43 with f1_ f2_ f3_; have f4_ := f1_.symm; have f5_ := f3_.symm; clear f1_ f2_ f3_; subst f4_; subst f5_))
                   refine hK.out _ _ ⟨(blk_cell BK913.out 0).trans rfl, (blk_cell BK913.out 1).trans rfl, (blk_cell BK913.out 2).trans rfl, (blk_cell BK913.out 3).trans rfl, (blk_cell BK913.out 4).trans rfl, (hc HB hw921_0), (hc HB hw921_1), (hc HB hw921_2), (hc HB hw921_3), (hc HB hw921_4), (hc HB hw921_5), (hc HB hw921_6)⟩ (fun hHeld => ?_)
                   clear hK K
                   refine norm_ (a' := ?_) ?_ ?_
                   rotate_left
                   ·show Act.put _ (some 65) _ = _
                    simp only [Act.put, List.setIfInBounds_toArray, List.set_cons_zero, List.set_cons_succ, i64_w, i32_w]
                    rfl
                   refine one_ (i := 10) (N := some 69) (bb 11 16) rfl rfl (one_of HT_.out (by kernel_rfl)) (by decide) (fun K hK => ?_)
                   refine goes_ Tryd.func94 (by kernel_rfl) rfl #[.slice Ao43 y922.length co43, .string (a2.extract ((ji25) : Int).toNat a2.size)] (by rfl) rfl rfl (by (try simp only [List.map_toArray, List.map_cons, List.map_nil]); first | done | (simp only [hji25]; rfl) | rfl | (simp only [List.length_drop, List.length_take]; rfl)) ?_
                   with_reducible refine (vellumref04_values.calls kj18 _ _ y922 (a2.extract ((ji25) : Int).toNat a2.size) t925 t926 _ ?side1 ?side2 A28.out).mono ?_
                   (case side1 => repeat (first | exact (Kd.R_reads' HO924.out).2.2 | (with_reducible refine Kd.C_alloc ?_ _) | (with_reducible refine Kd.C_drewN ?_ _) | (with_reducible refine Kd.C_drew ?_)))
                   (case side2 => exact (Kd.R_reads' HO924.out).2.1)
                   rintro e w44 ⟨v927, rfl, ho0, hb⟩
                   refine ⟨_, rfl, ?_⟩
                   have n0_ := am (Kd.R_elder' (Kd.rr HO_9.out) (Kd.R_base ho0) hb)
                   have n1_ := am (Kd.R_below (Kd.rr HO924.out) hb)
                   have n2_ := am (Kd.R_lower (Kd.R_new' ho0 (Kd.R_lt (Kd.rr HO_9.out))) (below_size (bl HB)))
                   have n3_ := kb BK913 hb
                   have n4_ := sb HB hb
                   clear HO_9
                   clear HO924
                   clear BK913
                   clear HB
                   have HO_9 := n0_
                   have HO924 := n1_
                   have HO928 := n2_
                   have BK913 := n3_
                   have HB := n4_
                   clear n0_ n1_ n2_ n3_ n4_
                   (try clear hb)
                   (try clear hb2)
                   (try clear hk)
                   (try clear hi)
                   (try clear ho0)
                   refine hK.out _ _ ⟨(blk_cell BK913.out 0).trans rfl, (blk_cell BK913.out 1).trans rfl, (blk_cell BK913.out 2).trans rfl, (blk_cell BK913.out 3).trans rfl, (blk_cell BK913.out 4).trans rfl, (hc HB hw921_0), (hc HB hw921_1), (hc HB hw921_2), (hc HB hw921_3), (hc HB hw921_4), (hc HB hw921_5), (hc HB hw921_6)⟩ (fun hHeld => ?_)
                   clear hK K
                   refine norm_ (a' := ?_) ?_ ?_
                   rotate_left
                   ·show Act.put _ (some 69) _ = _
                    simp only [Act.put, List.setIfInBounds_toArray, List.set_cons_zero, List.set_cons_succ, i64_w, i32_w]
                    rfl
                   refine pu HT_ 11 (some 58) (bb 12 16) ?_
                   refine pu HT_ 12 (some 70) (bb 13 16) ?_
                   refine pu HT_ 13 (some 71) (bb 14 16) ?_
                   refine pu HT_ 14 (some 14) (bb 15 16) ?_
                   refine pu HT_ 15 (some 15) (bb 16 16) ?_
                   refine done_ (done_of HT_.out (by kernel_rfl)) ?_
                   try go_wp2
                   have n0_ := am (Kd.R_drew HO_9.out)
                   have n1_ := am (Kd.R_drew HO924.out)
                   have n2_ := am (Kd.R_drew HO928.out)
                   have n3_ := am (blk_drew BK913.out)
                   have n4_ := am (below_drew1 HB.out)
                   clear HO_9
                   clear HO924
                   clear HO928
                   clear BK913
                   clear HB
                   have HO_9 := n0_
                   have HO924 := n1_
                   have HO928 := n2_
                   have BK913 := n3_
                   have HB := n4_
                   clear n0_ n1_ n2_ n3_ n4_
                   obtain ⟨Ao46, co46, eo46⟩ := Kd.R_slice HO928.out
                   (first | subst eo46 | (injection eo46 with f1_ f2_ f3_; have f4_ := f1_.symm; have f5_ := f3_.symm; clear f1_ f2_ f3_; subst f4_; subst f5_))
                   have p929 : 0 ≤ (0 : Int) := (by omega)
                   have q929 : 0 < (t925.length : Int) := oda
                   obtain ⟨ad929, e929, hx929_0, hx929_1, hx929_2, hx929_3⟩ := at_T50 (Kd.R_reads' HO928.out).2.2 0 p929 q929
                   cases e929
                   have qi929 : (0 < t925.length) = True := eq_true (by omega)
                   (try rw [show ((0 : Int)).toNat = 0 from rfl] at hx929_0)
                   (try rw [show 0 * 4 = 0 from rfl] at hx929_0)
                   (try rw [Addr.add_zero'] at hx929_0)
                   (try rw [show ((0 : Int)).toNat = 0 from rfl] at hx929_1)
                   (try rw [show 0 * 4 = 0 from rfl] at hx929_1)
                   (try rw [Addr.add_zero'] at hx929_1)
                   (try rw [show ((0 : Int)).toNat = 0 from rfl] at hx929_2)
                   (try rw [show 0 * 4 = 0 from rfl] at hx929_2)
                   (try rw [Addr.add_zero'] at hx929_2)
                   (try rw [show ((0 : Int)).toNat = 0 from rfl] at hx929_3)
                   (try rw [show 0 * 4 = 0 from rfl] at hx929_3)
                   (try rw [Addr.add_zero'] at hx929_3)
                   replace p929 := eq_true p929
                   replace q929 := eq_true q929
                   have p930 : 0 ≤ ((ji22) : Int) := oda
                   have q930 : (ji22) < (l1.length : Int) := oda
                   obtain ⟨ad930, e930, hx930_0, hx930_1, hx930_2, hx930_3⟩ := at_T50 HR1.out (ji22) p930 q930
                   have hw930_3 := hx930_3
                   have hw930_2 := hx930_2
                   have hw930_1 := hx930_1
                   have hw930_0 := hx930_0
                   cases e930
                   replace hx930_0 := hc HB hx930_0
                   replace hx930_1 := hc HB hx930_1
                   replace hx930_2 := hc HB hx930_2
                   replace hx930_3 := hc HB hx930_3
                   replace p930 := eq_true p930
                   replace q930 := eq_true q930
                   refine start_ (n := 12) (S := fun w' => w'.cell? ad929 = some (.int .i64 ((rd_T50 t925 0).f0)) ∧ w'.cell? ⟨ad929.block, ad929.off + 1, none⟩ = some (.int .i64 ((rd_T50 t925 0).f1)) ∧ w'.cell? ⟨ad929.block, ad929.off + 2, none⟩ = some (.float .f64 ((rd_T50 t925 0).f2)) ∧ w'.cell? ⟨ad929.block, ad929.off + 3, none⟩ = some (.string ((rd_T50 t925 0).f3)) ∧ w'.cell? (ad930.add (((ji22)).toNat * 4)) = some (.int .i64 ((rd_T50 l1 (ji22)).f0)) ∧ w'.cell? ⟨(ad930.add (((ji22)).toNat * 4)).block, (ad930.add (((ji22)).toNat * 4)).off + 1, none⟩ = some (.int .i64 ((rd_T50 l1 (ji22)).f1)) ∧ w'.cell? ⟨(ad930.add (((ji22)).toNat * 4)).block, (ad930.add (((ji22)).toNat * 4)).off + 2, none⟩ = some (.float .f64 ((rd_T50 l1 (ji22)).f2)) ∧ w'.cell? ⟨(ad930.add (((ji22)).toNat * 4)).block, (ad930.add (((ji22)).toNat * 4)).off + 3, none⟩ = some (.string ((rd_T50 l1 (ji22)).f3))) (ds := []) (bb 0 12) (by kernel_rfl) rfl rfl ⟨hx929_0, hx929_1, hx929_2, hx929_3, (hc HB hw930_0), (hc HB hw930_1), (hc HB hw930_2), (hc HB hw930_3)⟩ (fun hHeld => ?_); refine with_tabW vellumref04_Apply.tab16 vellumref04_Apply.bits16 (fun HT_ HW_ => ?_)
                   generalize w44.drew = w45 at HO_9 HO924 HO928 BK913 HB hx929_0 hx929_1 hx929_2 hx929_3 hx930_0 hx930_1 hx930_2 hx930_3 hHeld ⊢
                   refine pu HT_ 0 (some 72) (bb 1 12) ?_
                   refine pu HT_ 1 (some 73) (bb 2 12) ?_
                   refine pu HT_ 2 (some 74) (bb 3 12) ?_
                   refine pu HT_ 3 (some 75) (bb 4 12) ?_
                   refine pu HT_ 4 (some 76) (bb 5 12) ?_
                   refine pu HT_ 6 (some 78) (bs 12 95) ?_
                   refine pu HT_ 7 (some 79) (bs 12 223) ?_
                   refine pu HT_ 8 (some 80) (bs 12 479) ?_
                   refine tk HT_ HW_ hHeld 5 (some 77) (bb 9 12) ?_
                   refine tk HT_ HW_ hHeld 9 (some 81) (bb 10 12) ?_
                   refine one_ (i := 10) (N := some 82) (bb 11 12) rfl rfl (one_of HT_.out (by kernel_rfl)) (by decide) (fun K hK => ?_)
                   refine goes_ Tryd.func46 (by kernel_rfl) rfl #[.agg #[.int .i64 ((rd_T50 t925 0).f0), .int .i64 ((rd_T50 t925 0).f1), .float .f64 ((rd_T50 t925 0).f2), .string ((rd_T50 t925 0).f3)], .agg #[.int .i64 ((rd_T50 l1 (ji22)).f0), .int .i64 ((rd_T50 l1 (ji22)).f1), .float .f64 ((rd_T50 l1 (ji22)).f2), .string ((rd_T50 l1 (ji22)).f3)]] (by rfl) rfl rfl (by (try simp only [List.map_toArray, List.map_cons, List.map_nil]); first | done | (simp only [hji22]; rfl) | rfl | (simp only [List.length_drop, List.length_take]; rfl)) ?_
                   with_reducible refine (vellumref01_Same.calls ((rd_T50 t925 0).f0) ((rd_T50 t925 0).f1) ((rd_T50 t925 0).f2) ((rd_T50 t925 0).f3) ((rd_T50 l1 (ji22)).f0) ((rd_T50 l1 (ji22)).f1) ((rd_T50 l1 (ji22)).f2) ((rd_T50 l1 (ji22)).f3) true _ A38.out).mono ?_
                   rintro e w47 ⟨rfl, hb⟩
                   have HS0_ := (hb.cell (World.block_lt_of_cell? _ _ (hHeld.1))).trans (hHeld.1)
                   have HS1_ := (hb.cell (World.block_lt_of_cell? _ _ (hHeld.2.1))).trans (hHeld.2.1)
                   have HS2_ := (hb.cell (World.block_lt_of_cell? _ _ (hHeld.2.2.1))).trans (hHeld.2.2.1)
                   have HS3_ := (hb.cell (World.block_lt_of_cell? _ _ (hHeld.2.2.2.1))).trans (hHeld.2.2.2.1)
                   refine ⟨_, rfl, ?_⟩
                   have n0_ := am (Kd.R_below (Kd.rr HO_9.out) hb)
                   have n1_ := am (Kd.R_below (Kd.rr HO924.out) hb)
                   have n2_ := am (Kd.R_below (Kd.rr HO928.out) hb)
                   have n3_ := kb BK913 hb
                   have n4_ := sb HB hb
                   clear HO_9
                   clear HO924
                   clear HO928
                   clear BK913
                   clear HB
                   have HO_9 := n0_
                   have HO924 := n1_
                   have HO928 := n2_
                   have BK913 := n3_
                   have HB := n4_
                   clear n0_ n1_ n2_ n3_ n4_
                   (try clear hb)
                   (try clear hb2)
                   (try clear hk)
                   (try clear hi)
                   refine hK.out _ _ ⟨HS0_, HS1_, HS2_, HS3_, (hc HB hw930_0), (hc HB hw930_1), (hc HB hw930_2), (hc HB hw930_3)⟩ (fun hHeld => ?_)
                   clear hK K
                   refine norm_ (a' := ?_) ?_ ?_
                   rotate_left
                   ·show Act.put _ (some 82) _ = _
                    simp only [Act.put, List.setIfInBounds_toArray, List.set_cons_zero, List.set_cons_succ, i64_w, i32_w]
                    rfl
                   refine pu HT_ 11 (some 83) (bb 12 12) ?_
                   refine done_ (done_of HT_.out (by kernel_rfl)) ?_
                   try go_wp2
                   go_ret2
                   exact ⟨_, by first | rfl | (simp [errW_none, errW_some] <;> rfl) | (simp only [← hji22, ← hji25]; first | rfl | (simp [errW_none, errW_some] <;> rfl)) | (simp [*, errW_none, errW_some] <;> rfl), by first | exact Kd.R_nil _ _ _ _ _ | exact Kd.N_nil _ _ _ _ _ | exact Kd.V_nil _ _ _ _ _ | exact Kd.Q_nil _ _ _ _ _ | exact Kd.S_nil _ _ _ _ _, bl HB⟩
                  ·replace c39 := Bool.eq_false_iff.mpr c39
                   subst c39
                   have H1 : (if (ji22) < (x9_1.length : Int) then (vellumref04_Apply.l0 kj18 l1 a2 (x9_1.set ((ji22) : Int).toNat (⟨(rd_T50 t925 0).f0, (rd_T50 t925 0).f1, (rd_T50 t925 0).f2, (rd_T50 t925 0).f3⟩ : S50)) ji22 (wrap64 ((ji25) + t926)) a0_0 l0_1 l0_2 l0_3 l0_4) else (none)) = some (r1, r2) := by rw [if_neg (show ¬ (false = true) by decide)] at H; exact H
                   clear H
                   have H := H1
                   clear H1
                   by_cases c48 : (ji22) < (x9_1.length : Int)
                   ·rw [if_pos c48] at H
                    have c48b0 : decide ((ji22) < (x9_1.length : Int)) = true := decide_eq_true c48
                    clear c48
                    obtain ⟨y933, hy933⟩ : ∃ y_ : List (S50), y_ = (x9_1.set ((ji22) : Int).toNat (⟨(rd_T50 t925 0).f0, (rd_T50 t925 0).f1, (rd_T50 t925 0).f2, (rd_T50 t925 0).f3⟩ : S50)) := ⟨_, rfl⟩
                    replace H : (vellumref04_Apply.l0 kj18 l1 a2 y933 ji22 (wrap64 ((ji25) + t926)) a0_0 l0_1 l0_2 l0_3 l0_4) = some (r1, r2) := by first | (rw [hy933]; with_reducible exact H) | (have H2_ := (Option.bind_some _ _).symm.trans H; rw [hy933]; with_reducible exact H2_) | (have H2_ := (Option.bind_some _ _).symm.trans H; with_reducible exact H2_) | with_reducible exact H | (rw [hy933]; exact H) | exact H
                    have Ny933 := am hy933
                    clear hy933
                    have H' := am H
                    clear H
                    try go_wp2
                    have n0_ := am (Kd.R_drew HO_9.out)
                    have n1_ := am (blk_drew BK913.out)
                    have n2_ := am (below_drew1 HB.out)
                    clear HO_9
                    clear BK913
                    clear HB
                    have HO_9 := n0_
                    have BK913 := n1_
                    have HB := n2_
                    clear n0_ n1_ n2_
                    have p921 : 0 ≤ ((ji22) : Int) := oda
                    have q921 : (ji22) < (l0_1.length : Int) := oda
                    obtain ⟨ad921, e921, hx921_0, hx921_1, hx921_2, hx921_3, hx921_4, hx921_5, hx921_6⟩ := at_T105 HR0_1.out (ji22) p921 q921
                    have hw921_6 := hx921_6
                    have hw921_5 := hx921_5
                    have hw921_4 := hx921_4
                    have hw921_3 := hx921_3
                    have hw921_2 := hx921_2
                    have hw921_1 := hx921_1
                    have hw921_0 := hx921_0
                    cases e921
                    replace hx921_0 := hc HB hx921_0
                    replace hx921_1 := hc HB hx921_1
                    replace hx921_2 := hc HB hx921_2
                    replace hx921_3 := hc HB hx921_3
                    replace hx921_4 := hc HB hx921_4
                    replace hx921_5 := hc HB hx921_5
                    replace hx921_6 := hc HB hx921_6
                    replace p921 := eq_true p921
                    replace q921 := eq_true q921
                    refine start_ (n := 16) (S := fun w' => w'.cell? ⟨gb913, 0, none⟩ = some (.string a0_0) ∧ w'.cell? ⟨gb913, 1, none⟩ = some (.slice (some ad921) l0_1.length c0_1) ∧ w'.cell? ⟨gb913, 2, none⟩ = some (.slice A0_2 l0_2.length c0_2) ∧ w'.cell? ⟨gb913, 3, none⟩ = some (.slice A0_3 l0_3.length c0_3) ∧ w'.cell? ⟨gb913, 4, none⟩ = some (.slice A0_4 l0_4.length c0_4) ∧ w'.cell? (ad921.add (((ji22)).toNat * 7)) = some (.string ((rd_T105 l0_1 (ji22)).f0)) ∧ w'.cell? ⟨(ad921.add (((ji22)).toNat * 7)).block, (ad921.add (((ji22)).toNat * 7)).off + 1, none⟩ = some (.int .i64 ((rd_T105 l0_1 (ji22)).f1)) ∧ w'.cell? ⟨(ad921.add (((ji22)).toNat * 7)).block, (ad921.add (((ji22)).toNat * 7)).off + 2, none⟩ = some (.bool ((rd_T105 l0_1 (ji22)).f2)) ∧ w'.cell? ⟨(ad921.add (((ji22)).toNat * 7)).block, (ad921.add (((ji22)).toNat * 7)).off + 3, none⟩ = some (.int .i64 ((rd_T105 l0_1 (ji22)).f3.f0)) ∧ w'.cell? ⟨(ad921.add (((ji22)).toNat * 7)).block, (ad921.add (((ji22)).toNat * 7)).off + 4, none⟩ = some (.int .i64 ((rd_T105 l0_1 (ji22)).f3.f1)) ∧ w'.cell? ⟨(ad921.add (((ji22)).toNat * 7)).block, (ad921.add (((ji22)).toNat * 7)).off + 5, none⟩ = some (.float .f64 ((rd_T105 l0_1 (ji22)).f3.f2)) ∧ w'.cell? ⟨(ad921.add (((ji22)).toNat * 7)).block, (ad921.add (((ji22)).toNat * 7)).off + 6, none⟩ = some (.string ((rd_T105 l0_1 (ji22)).f3.f3))) (ds := []) (bb 0 16) (by kernel_rfl) rfl rfl ⟨(blk_cell BK913.out 0).trans rfl, (blk_cell BK913.out 1).trans rfl, (blk_cell BK913.out 2).trans rfl, (blk_cell BK913.out 3).trans rfl, (blk_cell BK913.out 4).trans rfl, (hc HB hw921_0), (hc HB hw921_1), (hc HB hw921_2), (hc HB hw921_3), (hc HB hw921_4), (hc HB hw921_5), (hc HB hw921_6)⟩ (fun hHeld => ?_); refine with_tabW vellumref04_Apply.tab15 vellumref04_Apply.bits15 (fun HT_ HW_ => ?_)
                    generalize wc.drew = w50 at HO_9 BK913 HB hx921_0 hx921_1 hx921_2 hx921_3 hx921_4 hx921_5 hx921_6 hHeld ⊢
                    refine pu HT_ 0 (some 59) (bb 1 16) ?_
                    refine pu HT_ 2 (some 61) (bs 16 5) ?_
                    refine pu HT_ 7 (some 66) (bs 16 133) ?_
                    refine pu HT_ 8 (some 67) (bs 16 389) ?_
                    refine pu HT_ 9 (some 68) (bs 16 901) ?_
                    refine tk HT_ HW_ hHeld 1 (some 60) (bs 16 903) ?_
                    refine pu HT_ 3 (some 62) (bs 16 911) ?_
                    refine pu HT_ 4 (some 63) (bs 16 927) ?_
                    refine tk HT_ HW_ hHeld 5 (some 64) (bs 16 959) ?_
                    refine one_ (i := 6) (N := some 65) (bb 10 16) rfl rfl (one_of HT_.out (by kernel_rfl)) (by decide) (fun K hK => ?_)
                    refine Kd.R_lit_step (Kd.int .i64) _ 3 ?hg (N := 65) ?hd (xs := ([(rd_T105 l0_1 (ji22)).f1] : List Int)) (inner := [.int .i64 ((rd_T105 l0_1 (ji22)).f1)]) (ok := fun _ => True) (okp := fun _ => True) ?hr ?hp (fun _ hk => hk) trivial (Below.refl _ _) (Nat.le_refl _) (by simp) ?_; (case hd => rfl); (case hg => rfl); (case hr => first | (go_simp; done) | (go_simp; rfl)); (case hp => exact (Reps.one (show Kd.M (Kd.int .i64) _ _ _ ((rd_T105 l0_1 (ji22)).f1) [.int .i64 ((rd_T105 l0_1 (ji22)).f1)] from rfl) (Reps.none _ _)))
                    intro v923 w51 ho52 hb hg_ hnew_
                    clear hg_ hnew_
                    (first | rw [← Ny922.out] at ho52 | (simp only [Int.reduceToNat] at ho52; rw [← Ny922.out] at ho52))
                    have n0_ := am (Kd.R_below (Kd.rr HO_9.out) hb)
                    have n1_ := am (Kd.R_lower ho52 (below_size (bl HB)))
                    have n2_ := kb BK913 hb
                    have n3_ := sb HB hb
                    clear HO_9
                    clear BK913
                    clear HB
                    have HO_9 := n0_
                    have HO924 := n1_
                    have BK913 := n2_
                    have HB := n3_
                    clear n0_ n1_ n2_ n3_
                    clear hb ho52
                    obtain ⟨Ao53, co53, eo53⟩ := Kd.R_slice HO924.out
                    (first | subst eo53 | (injection eo53 with f1_ f2_ f3_; have f4_ := f1_.symm; have f5_ := f3_.symm; clear f1_ f2_ f3_; subst f4_; subst f5_))
                    refine hK.out _ _ ⟨(blk_cell BK913.out 0).trans rfl, (blk_cell BK913.out 1).trans rfl, (blk_cell BK913.out 2).trans rfl, (blk_cell BK913.out 3).trans rfl, (blk_cell BK913.out 4).trans rfl, (hc HB hw921_0), (hc HB hw921_1), (hc HB hw921_2), (hc HB hw921_3), (hc HB hw921_4), (hc HB hw921_5), (hc HB hw921_6)⟩ (fun hHeld => ?_)
                    clear hK K
                    refine norm_ (a' := ?_) ?_ ?_
                    rotate_left
                    ·show Act.put _ (some 65) _ = _
                     simp only [Act.put, List.setIfInBounds_toArray, List.set_cons_zero, List.set_cons_succ, i64_w, i32_w]
                     rfl
                    refine one_ (i := 10) (N := some 69) (bb 11 16) rfl rfl (one_of HT_.out (by kernel_rfl)) (by decide) (fun K hK => ?_)
                    refine goes_ Tryd.func94 (by kernel_rfl) rfl #[.slice Ao53 y922.length co53, .string (a2.extract ((ji25) : Int).toNat a2.size)] (by rfl) rfl rfl (by (try simp only [List.map_toArray, List.map_cons, List.map_nil]); first | done | (simp only [hji25]; rfl) | rfl | (simp only [List.length_drop, List.length_take]; rfl)) ?_
                    with_reducible refine (vellumref04_values.calls kj18 _ _ y922 (a2.extract ((ji25) : Int).toNat a2.size) t925 t926 _ ?side1 ?side2 A28.out).mono ?_
                    (case side1 => repeat (first | exact (Kd.R_reads' HO924.out).2.2 | (with_reducible refine Kd.C_alloc ?_ _) | (with_reducible refine Kd.C_drewN ?_ _) | (with_reducible refine Kd.C_drew ?_)))
                    (case side2 => exact (Kd.R_reads' HO924.out).2.1)
                    rintro e w54 ⟨v927, rfl, ho0, hb⟩
                    refine ⟨_, rfl, ?_⟩
                    have n0_ := am (Kd.R_elder' (Kd.rr HO_9.out) (Kd.R_base ho0) hb)
                    have n1_ := am (Kd.R_below (Kd.rr HO924.out) hb)
                    have n2_ := am (Kd.R_lower (Kd.R_new' ho0 (Kd.R_lt (Kd.rr HO_9.out))) (below_size (bl HB)))
                    have n3_ := kb BK913 hb
                    have n4_ := sb HB hb
                    clear HO_9
                    clear HO924
                    clear BK913
                    clear HB
                    have HO_9 := n0_
                    have HO924 := n1_
                    have HO928 := n2_
                    have BK913 := n3_
                    have HB := n4_
                    clear n0_ n1_ n2_ n3_ n4_
                    (try clear hb)
                    (try clear hb2)
                    (try clear hk)
                    (try clear hi)
                    (try clear ho0)
                    refine hK.out _ _ ⟨(blk_cell BK913.out 0).trans rfl, (blk_cell BK913.out 1).trans rfl, (blk_cell BK913.out 2).trans rfl, (blk_cell BK913.out 3).trans rfl, (blk_cell BK913.out 4).trans rfl, (hc HB hw921_0), (hc HB hw921_1), (hc HB hw921_2), (hc HB hw921_3), (hc HB hw921_4), (hc HB hw921_5), (hc HB hw921_6)⟩ (fun hHeld => ?_)
                    clear hK K
                    refine norm_ (a' := ?_) ?_ ?_
                    rotate_left
                    ·show Act.put _ (some 69) _ = _
                     simp only [Act.put, List.setIfInBounds_toArray, List.set_cons_zero, List.set_cons_succ, i64_w, i32_w]
                     rfl
                    refine pu HT_ 11 (some 58) (bb 12 16) ?_
                    refine pu HT_ 12 (some 70) (bb 13 16) ?_
                    refine pu HT_ 13 (some 71) (bb 14 16) ?_
                    refine pu HT_ 14 (some 14) (bb 15 16) ?_
                    refine pu HT_ 15 (some 15) (bb 16 16) ?_
                    refine done_ (done_of HT_.out (by kernel_rfl)) ?_
                    try go_wp2
                    have n0_ := am (Kd.R_drew HO_9.out)
                    have n1_ := am (Kd.R_drew HO924.out)
                    have n2_ := am (Kd.R_drew HO928.out)
                    have n3_ := am (blk_drew BK913.out)
                    have n4_ := am (below_drew1 HB.out)
                    clear HO_9
                    clear HO924
                    clear HO928
                    clear BK913
                    clear HB
                    have HO_9 := n0_
                    have HO924 := n1_
                    have HO928 := n2_
                    have BK913 := n3_
                    have HB := n4_
                    clear n0_ n1_ n2_ n3_ n4_
                    obtain ⟨Ao56, co56, eo56⟩ := Kd.R_slice HO928.out
                    (first | subst eo56 | (injection eo56 with f1_ f2_ f3_; have f4_ := f1_.symm; have f5_ := f3_.symm; clear f1_ f2_ f3_; subst f4_; subst f5_))
                    have p929 : 0 ≤ (0 : Int) := (by omega)
                    have q929 : 0 < (t925.length : Int) := oda
                    obtain ⟨ad929, e929, hx929_0, hx929_1, hx929_2, hx929_3⟩ := at_T50 (Kd.R_reads' HO928.out).2.2 0 p929 q929
                    cases e929
                    have qi929 : (0 < t925.length) = True := eq_true (by omega)
                    (try rw [show ((0 : Int)).toNat = 0 from rfl] at hx929_0)
                    (try rw [show 0 * 4 = 0 from rfl] at hx929_0)
                    (try rw [Addr.add_zero'] at hx929_0)
                    (try rw [show ((0 : Int)).toNat = 0 from rfl] at hx929_1)
                    (try rw [show 0 * 4 = 0 from rfl] at hx929_1)
                    (try rw [Addr.add_zero'] at hx929_1)
                    (try rw [show ((0 : Int)).toNat = 0 from rfl] at hx929_2)
                    (try rw [show 0 * 4 = 0 from rfl] at hx929_2)
                    (try rw [Addr.add_zero'] at hx929_2)
                    (try rw [show ((0 : Int)).toNat = 0 from rfl] at hx929_3)
                    (try rw [show 0 * 4 = 0 from rfl] at hx929_3)
                    (try rw [Addr.add_zero'] at hx929_3)
                    replace p929 := eq_true p929
                    replace q929 := eq_true q929
                    have p930 : 0 ≤ ((ji22) : Int) := oda
                    have q930 : (ji22) < (l1.length : Int) := oda
                    obtain ⟨ad930, e930, hx930_0, hx930_1, hx930_2, hx930_3⟩ := at_T50 HR1.out (ji22) p930 q930
                    have hw930_3 := hx930_3
                    have hw930_2 := hx930_2
                    have hw930_1 := hx930_1
                    have hw930_0 := hx930_0
                    cases e930
                    replace hx930_0 := hc HB hx930_0
                    replace hx930_1 := hc HB hx930_1
                    replace hx930_2 := hc HB hx930_2
                    replace hx930_3 := hc HB hx930_3
                    replace p930 := eq_true p930
                    replace q930 := eq_true q930
                    refine start_ (n := 12) (S := fun w' => w'.cell? ad929 = some (.int .i64 ((rd_T50 t925 0).f0)) ∧ w'.cell? ⟨ad929.block, ad929.off + 1, none⟩ = some (.int .i64 ((rd_T50 t925 0).f1)) ∧ w'.cell? ⟨ad929.block, ad929.off + 2, none⟩ = some (.float .f64 ((rd_T50 t925 0).f2)) ∧ w'.cell? ⟨ad929.block, ad929.off + 3, none⟩ = some (.string ((rd_T50 t925 0).f3)) ∧ w'.cell? (ad930.add (((ji22)).toNat * 4)) = some (.int .i64 ((rd_T50 l1 (ji22)).f0)) ∧ w'.cell? ⟨(ad930.add (((ji22)).toNat * 4)).block, (ad930.add (((ji22)).toNat * 4)).off + 1, none⟩ = some (.int .i64 ((rd_T50 l1 (ji22)).f1)) ∧ w'.cell? ⟨(ad930.add (((ji22)).toNat * 4)).block, (ad930.add (((ji22)).toNat * 4)).off + 2, none⟩ = some (.float .f64 ((rd_T50 l1 (ji22)).f2)) ∧ w'.cell? ⟨(ad930.add (((ji22)).toNat * 4)).block, (ad930.add (((ji22)).toNat * 4)).off + 3, none⟩ = some (.string ((rd_T50 l1 (ji22)).f3))) (ds := []) (bb 0 12) (by kernel_rfl) rfl rfl ⟨hx929_0, hx929_1, hx929_2, hx929_3, (hc HB hw930_0), (hc HB hw930_1), (hc HB hw930_2), (hc HB hw930_3)⟩ (fun hHeld => ?_); refine with_tabW vellumref04_Apply.tab16 vellumref04_Apply.bits16 (fun HT_ HW_ => ?_)
                    generalize w54.drew = w55 at HO_9 HO924 HO928 BK913 HB hx929_0 hx929_1 hx929_2 hx929_3 hx930_0 hx930_1 hx930_2 hx930_3 hHeld ⊢
                    refine pu HT_ 0 (some 72) (bb 1 12) ?_
                    refine pu HT_ 1 (some 73) (bb 2 12) ?_
                    refine pu HT_ 2 (some 74) (bb 3 12) ?_
                    refine pu HT_ 3 (some 75) (bb 4 12) ?_
                    refine pu HT_ 4 (some 76) (bb 5 12) ?_
                    refine pu HT_ 6 (some 78) (bs 12 95) ?_
                    refine pu HT_ 7 (some 79) (bs 12 223) ?_
                    refine pu HT_ 8 (some 80) (bs 12 479) ?_
                    refine tk HT_ HW_ hHeld 5 (some 77) (bb 9 12) ?_
                    refine tk HT_ HW_ hHeld 9 (some 81) (bb 10 12) ?_
                    refine one_ (i := 10) (N := some 82) (bb 11 12) rfl rfl (one_of HT_.out (by kernel_rfl)) (by decide) (fun K hK => ?_)
                    refine goes_ Tryd.func46 (by kernel_rfl) rfl #[.agg #[.int .i64 ((rd_T50 t925 0).f0), .int .i64 ((rd_T50 t925 0).f1), .float .f64 ((rd_T50 t925 0).f2), .string ((rd_T50 t925 0).f3)], .agg #[.int .i64 ((rd_T50 l1 (ji22)).f0), .int .i64 ((rd_T50 l1 (ji22)).f1), .float .f64 ((rd_T50 l1 (ji22)).f2), .string ((rd_T50 l1 (ji22)).f3)]] (by rfl) rfl rfl (by (try simp only [List.map_toArray, List.map_cons, List.map_nil]); first | done | (simp only [hji22]; rfl) | rfl | (simp only [List.length_drop, List.length_take]; rfl)) ?_
                    with_reducible refine (vellumref01_Same.calls ((rd_T50 t925 0).f0) ((rd_T50 t925 0).f1) ((rd_T50 t925 0).f2) ((rd_T50 t925 0).f3) ((rd_T50 l1 (ji22)).f0) ((rd_T50 l1 (ji22)).f1) ((rd_T50 l1 (ji22)).f2) ((rd_T50 l1 (ji22)).f3) false _ A38.out).mono ?_
                    rintro e w57 ⟨rfl, hb⟩
                    have HS0_ := (hb.cell (World.block_lt_of_cell? _ _ (hHeld.1))).trans (hHeld.1)
                    have HS1_ := (hb.cell (World.block_lt_of_cell? _ _ (hHeld.2.1))).trans (hHeld.2.1)
                    have HS2_ := (hb.cell (World.block_lt_of_cell? _ _ (hHeld.2.2.1))).trans (hHeld.2.2.1)
                    have HS3_ := (hb.cell (World.block_lt_of_cell? _ _ (hHeld.2.2.2.1))).trans (hHeld.2.2.2.1)
                    refine ⟨_, rfl, ?_⟩
                    have n0_ := am (Kd.R_below (Kd.rr HO_9.out) hb)
                    have n1_ := am (Kd.R_below (Kd.rr HO924.out) hb)
                    have n2_ := am (Kd.R_below (Kd.rr HO928.out) hb)
                    have n3_ := kb BK913 hb
                    have n4_ := sb HB hb
                    clear HO_9
                    clear HO924
                    clear HO928
                    clear BK913
                    clear HB
                    have HO_9 := n0_
                    have HO924 := n1_
                    have HO928 := n2_
                    have BK913 := n3_
                    have HB := n4_
                    clear n0_ n1_ n2_ n3_ n4_
                    (try clear hb)
                    (try clear hb2)
                    (try clear hk)
                    (try clear hi)
                    refine hK.out _ _ ⟨HS0_, HS1_, HS2_, HS3_, (hc HB hw930_0), (hc HB hw930_1), (hc HB hw930_2), (hc HB hw930_3)⟩ (fun hHeld => ?_)
                    clear hK K
                    refine norm_ (a' := ?_) ?_ ?_
                    rotate_left
                    ·show Act.put _ (some 82) _ = _
                     simp only [Act.put, List.setIfInBounds_toArray, List.set_cons_zero, List.set_cons_succ, i64_w, i32_w]
                     rfl
                    refine pu HT_ 11 (some 83) (bb 12 12) ?_
                    refine done_ (done_of HT_.out (by kernel_rfl)) ?_
                    have p932 : 0 ≤ (0 : Int) := (by omega)
                    have q932 : 0 < (t925.length : Int) := oda
                    obtain ⟨ad932, e932, hx932_0, hx932_1, hx932_2, hx932_3⟩ := at_T50 (Kd.R_reads' HO928.out).2.2 0 p932 q932
                    obtain rfl : ad929 = ad932 := (by injection e932)
                    have qi932 : (0 < t925.length) = True := eq_true (by omega)
                    (try rw [show ((0 : Int)).toNat = 0 from rfl] at hx932_0)
                    (try rw [show 0 * 4 = 0 from rfl] at hx932_0)
                    (try rw [Addr.add_zero'] at hx932_0)
                    (try rw [show ((0 : Int)).toNat = 0 from rfl] at hx932_1)
                    (try rw [show 0 * 4 = 0 from rfl] at hx932_1)
                    (try rw [Addr.add_zero'] at hx932_1)
                    (try rw [show ((0 : Int)).toNat = 0 from rfl] at hx932_2)
                    (try rw [show 0 * 4 = 0 from rfl] at hx932_2)
                    (try rw [Addr.add_zero'] at hx932_2)
                    (try rw [show ((0 : Int)).toNat = 0 from rfl] at hx932_3)
                    (try rw [show 0 * 4 = 0 from rfl] at hx932_3)
                    (try rw [Addr.add_zero'] at hx932_3)
                    replace p932 := eq_true p932
                    replace q932 := eq_true q932
                    have p49 : 0 ≤ ((ji22) : Int) := oda
                    have q49 : ((ji22) : Int) < ((x9_1.length : Int) : Int) := oda
                    obtain ⟨go49, co49, eo49, gb49, gl49, cl49, HG49⟩ := Kd.R_form HO_9.out (by omega)
                    (first | cases eo49 | (injection eo49 with ea_ en_ ec_; (first | subst ea_ | (injection ea_ with ea_; subst ea_)); subst ec_; clear en_))
                    have GB49 := am gb49
                    have GG49 := am HG49
                    clear gb49 gl49 HG49
                    obtain ⟨ce49, hcl49, hM49, hcc49, hfr49⟩ := Kd.R_elem HO_9.out z50 ((ji22) : Int) p49 q49
                    obtain rfl := k50_openM hM49
                    have hx49_0 : w57.cell? ⟨go49, ((ji22) : Int).toNat * 4, none⟩ = some (.int .i64 ((rd_T50 x9_1 (ji22)).f0)) := hcc49 0 _ rfl
                    have hx49_1 : w57.cell? ⟨go49, ((ji22) : Int).toNat * 4 + 1, none⟩ = some (.int .i64 ((rd_T50 x9_1 (ji22)).f1)) := hcc49 1 _ rfl
                    have hx49_2 : w57.cell? ⟨go49, ((ji22) : Int).toNat * 4 + 2, none⟩ = some (.float .f64 ((rd_T50 x9_1 (ji22)).f2)) := hcc49 2 _ rfl
                    have hx49_3 : w57.cell? ⟨go49, ((ji22) : Int).toNat * 4 + 3, none⟩ = some (.string ((rd_T50 x9_1 (ji22)).f3)) := hcc49 3 _ rfl
                    have hf49_0 : w57.frozen? ⟨go49, ((ji22) : Int).toNat * 4, none⟩ = false := hfr49 0
                    have hf49_1 : w57.frozen? ⟨go49, ((ji22) : Int).toNat * 4 + 1, none⟩ = false := hfr49 1
                    have hf49_2 : w57.frozen? ⟨go49, ((ji22) : Int).toNat * 4 + 2, none⟩ = false := hfr49 2
                    have hf49_3 : w57.frozen? ⟨go49, ((ji22) : Int).toNat * 4 + 3, none⟩ = false := hfr49 3
                    clear hcl49 hcc49 hfr49 hM49
                    replace p49 := eq_true p49
                    replace q49 := eq_true q49
                    have n_ := am (Kd.R_mono (ok' := (fun k_ => some k_ ≠ (.slice (some ad929) t925.length co56 : Value).ownBlock)) HO_9.out (fun k_ hk => hk.2))
                    clear HO_9
                    have HO_9 := n_
                    clear n_
                    have HX58 := am (show Kd.R k50 50 w57 w.heap.size (fun k_ => some k_ ≠ (.slice (some ad929) t925.length co56 : Value).ownBlock) (.slice (some ⟨go49, 0, none⟩) x9_1.length co49) x9_1 from (Kd.rr HO_9.out))
                    obtain ⟨ce58, hcl58, hM58, hcc58, hfr58⟩ := Kd.R_elem HX58.out z50 ((ji22) : Int) (oda) (by have h_ : ((ji22) : Int) < ((x9_1.length : Int) : Int) := oda; first | exact h_ | (have e_ := (Kd.R_reads' HO_9.out).1; omega) | simpa using h_)
                    obtain rfl := k50_openM hM58
                    have HP58 := Kd.R_seg HX58.out ((ji22) : Int) (oda) (by have h_ : ((ji22) : Int) < ((x9_1.length : Int) : Int) := oda; first | exact h_ | (have e_ := (Kd.R_reads' HO_9.out).1; omega) | simpa using h_) (seg := [.int .i64 ((rd_T50 t925 0).f0), .int .i64 ((rd_T50 t925 0).f1), .float .f64 ((rd_T50 t925 0).f2), .string ((rd_T50 t925 0).f3)]) (j := 0) hcl58 hcc58 (show 4 ≤ 4 from by decide) (x' := (⟨(rd_T50 t925 0).f0, (rd_T50 t925 0).f1, (rd_T50 t925 0).f2, (rd_T50 t925 0).f3⟩ : S50)) (k50_mkM _ _ _ (⟨(rd_T50 t925 0).f0, (rd_T50 t925 0).f1, (rd_T50 t925 0).f2, (rd_T50 t925 0).f3⟩ : S50) ) (fun _ hk => hk)
                    have hx58_0 := hcc58 0 _ rfl
                    (try simp only [show (k50).sz = 4 from rfl, Nat.mul_one, Nat.add_zero] at hx58_0)
                    have hf58_0 := hfr58 0
                    (try simp only [show (k50).sz = 4 from rfl, Nat.mul_one, Nat.add_zero] at hf58_0)
                    have hx58_1 := hcc58 1 _ rfl
                    (try simp only [show (k50).sz = 4 from rfl, Nat.mul_one, Nat.add_zero] at hx58_1)
                    have hf58_1 := hfr58 1
                    (try simp only [show (k50).sz = 4 from rfl, Nat.mul_one, Nat.add_zero] at hf58_1)
                    have hx58_2 := hcc58 2 _ rfl
                    (try simp only [show (k50).sz = 4 from rfl, Nat.mul_one, Nat.add_zero] at hx58_2)
                    have hf58_2 := hfr58 2
                    (try simp only [show (k50).sz = 4 from rfl, Nat.mul_one, Nat.add_zero] at hf58_2)
                    have hx58_3 := hcc58 3 _ rfl
                    (try simp only [show (k50).sz = 4 from rfl, Nat.mul_one, Nat.add_zero] at hx58_3)
                    have hf58_3 := hfr58 3
                    (try simp only [show (k50).sz = 4 from rfl, Nat.mul_one, Nat.add_zero] at hf58_3)
                    clear hcl58 hcc58 hfr58 hM58
                    try go_wp2_with (first | ((with_reducible refine gate_store (t := 50) (p := 89) rfl ?_); refine store_event (t := 50) (p := 89) (v := ?vo_w59) (w1 := ((((w57.setCell ⟨go49, ((ji22) : Int).toNat * 4, none⟩ (.int .i64 ((rd_T50 t925 0).f0))).setCell ⟨go49, ((ji22) : Int).toNat * 4 + 1, none⟩ (.int .i64 ((rd_T50 t925 0).f1))).setCell ⟨go49, ((ji22) : Int).toNat * 4 + 2, none⟩ (.float .f64 ((rd_T50 t925 0).f2))).setCell ⟨go49, ((ji22) : Int).toNat * 4 + 3, none⟩ (.string ((rd_T50 t925 0).f3)))) ?hg ?ho ?hn ?hr ?_; (case ho => rfl); (case hg => rfl); (case hn => rfl); (case hr => first | (go_simp; done) | (go_simp; rfl)); intro w59 hw; have hg : w57.grownBy w59 (some go49) := (by rw [hw]; exact HP58.2); have hp_ : Kd.R k50 50 w59 w.heap.size (fun k_ => some k_ ≠ (.slice (some ad929) t925.length co56 : Value).ownBlock) (.slice (some ⟨go49, 0, none⟩) x9_1.length co49) y933 := (by rw [hw, Ny933.out]; exact HP58.1); clear HP58; have n0_ := am (hp_); have n1_ := am (blk_grown (g := gb913) (o := .cells #[.string a0_0, .slice (some ad921) l0_1.length c0_1, .slice A0_2 l0_2.length c0_2, .slice A0_3 l0_3.length c0_3, .slice A0_4 l0_4.length c0_4] 65 (0, 0)) (bk BK913) hg (Kd.R_ne HO_9.out BK913.out (by decide))); have n2_ := am (Kd.R_over' (v := (.slice (some ⟨go49, 0, none⟩) x9_1.length co49)) (Kd.rr HO924.out) (Kd.R_typed HO_9.out) (by decide) hg); have n3_ := am (Kd.R_after (v := (.slice (some ⟨go49, 0, none⟩) x9_1.length co49)) (v1 := (.slice (some ⟨go49, 0, none⟩) x9_1.length co49)) (ok := (fun _ => True)) (Kd.rr HO928.out) hg (.inl rfl)); have n4_ := am ((by rw [hw]; exact below_set (below_set (below_set (below_set (HB.out) GB49.out) GB49.out) GB49.out) GB49.out : Below w.heap.size w w59)); clear HO_9; clear BK913; clear HO924; clear HO928; clear HB; have HO_9 := n0_; have BK913 := n1_; have HO924 := n2_; have HO928 := n3_; have HB := n4_; clear n0_ n1_ n2_ n3_ n4_; clear hg hw hp_))
                    go_roundg kj18
                    case measure => have := HK1.out; have := HJ18.out; omega
                    case rel => exact ⟨(y933), (ji22), (wrap64 ((ji25) + t926)), (by first | rfl | (simp; done) | (simp only [← hji22] <;> (first | rfl | simp)) | (simp [*]; done)), (by first | rfl | (simp; done) | (simp only [← hji25] <;> (first | rfl | simp)) | (simp [*]; done)), H', ⟨by have := HK1.out; have := HJ18.out; omega⟩, ⟨by (with_reducible repeat (first | apply Kd.R_alloc | apply Kd.R_drewN | apply Kd.R_drew)); exact Kd.R_mono HO_9.out (fun _ hk => trivial)⟩, ⟨bk BK913⟩, ⟨bl HB⟩⟩
                   ·rw [if_neg c48] at H
                    exact absurd H (by simp)
                 ·rw [if_neg c37] at H
                  exact absurd H (by simp)
                ·rw [if_neg c36] at H
                 exact absurd H (by simp)
              ·rw [if_neg c27] at H
               exact absurd H (by simp)
             ·rw [if_neg c26] at H
              exact absurd H (by simp)
            ·rw [if_neg c24] at H
             exact absurd H (by simp)
           ·rw [if_neg c23] at H
            exact absurd H (by simp)
       ·rw [if_neg c17] at H
        exact absurd H (by simp)
      ·rw [if_neg c16] at H
       exact absurd H (by simp)
     ·rw [if_neg c15] at H
      have c15b0 : decide (x11_1 < (a2.size : Int)) = false := decide_eq_false c15
      clear c15
      replace H := Option.bind_eq_some_iff.mp H
      obtain ⟨t918, A600, H⟩ := H
      replace H : (if t918 = 0 then (some (x9_1, 0)) else (some (([] : List (S50)), 41))) = some (r1, r2) := H
      have A60 := am A600
      clear A600
      by_cases c61 : t918 = 0
      ·rw [if_pos c61] at H
       have c61b0 : (t918 == 0) = true := beq_iff_eq.mpr c61
       have c61b1 : (t918 != 0) = false := bne_eq_false_iff_eq.mpr c61
       clear c61
       simp only [Option.some.injEq, Prod.mk.injEq] at H
       obtain ⟨rfl, rfl⟩ := H
       obtain ⟨Z62_0, Z62_1, Z62_2, Z62_3, Z62_4, Y62_0, Y62_1, Y62_2, Y62_3, Y62_4⟩ := bq5 BK913
       obtain ⟨Ao63, co63, eo63⟩ := Kd.R_slice HO_9.out
       subst eo63
       go_wp2_with (first | ((with_reducible refine gate_callee (f := 85) rfl ?_); refine goesL_ (some 95) rfl rfl Tryd.func85 (by kernel_rfl) rfl #[.agg #[.string a0_0, .slice A0_1 l0_1.length c0_1, .slice A0_2 l0_2.length c0_2, .slice A0_3 l0_3.length c0_3, .slice A0_4 l0_4.length c0_4], .slice Ao63 x9_1.length co63] rfl ar ?_; (with_reducible refine (vellumref03_Admits.calls k1 a0_0 _ _ l0_1 _ _ l0_2 _ _ l0_3 _ _ l0_4 _ _ x9_1 t918 _ (Kd.cb HR0_1 HB) HC0_1.out (Kd.cb HR0_2 HB) HC0_2.out (Kd.cb HR0_3 HB) HC0_3.out (Kd.cb HR0_4 HB) HC0_4.out ?side9 ?side10 (Glob.below HG.out (bl HB)) A60.out).mono ?_); (case side9 => repeat (first | exact (Kd.R_reads' HO_9.out).2.2 | (with_reducible refine Kd.C_alloc ?_ _) | (with_reducible refine Kd.C_drewN ?_ _) | (with_reducible refine Kd.C_drew ?_))); (case side10 => exact (Kd.R_reads' HO_9.out).2.1); rintro e w64 ⟨rfl, hb⟩; refine ⟨_, rfl, ?_⟩; have n0_ := am (Kd.R_below (Kd.rr HO_9.out) hb); have n1_ := kb BK913 hb; have n2_ := sb HB hb; clear HO_9; clear BK913; clear HB; have HO_9 := n0_; have BK913 := n1_; have HB := n2_; clear n0_ n1_ n2_; (try clear hb); (try clear hb2 hk hi)))
       go_ret2
       exact ⟨_, er, Kd.rr HO_9.out, bl HB⟩
      ·rw [if_neg c61] at H
       have c61b0 : (t918 == 0) = false := beq_eq_false_iff_ne.mpr c61
       have c61b1 : (t918 != 0) = true := bne_iff_ne.mpr c61
       simp only [Option.some.injEq, Prod.mk.injEq] at H
       obtain ⟨rfl, rfl⟩ := H
       obtain ⟨Z65_0, Z65_1, Z65_2, Z65_3, Z65_4, Y65_0, Y65_1, Y65_2, Y65_3, Y65_4⟩ := bq5 BK913
       obtain ⟨Ao66, co66, eo66⟩ := Kd.R_slice HO_9.out
       subst eo66
       go_wp2_with (first | ((with_reducible refine gate_callee (f := 85) rfl ?_); refine goesL_ (some 95) rfl rfl Tryd.func85 (by kernel_rfl) rfl #[.agg #[.string a0_0, .slice A0_1 l0_1.length c0_1, .slice A0_2 l0_2.length c0_2, .slice A0_3 l0_3.length c0_3, .slice A0_4 l0_4.length c0_4], .slice Ao66 x9_1.length co66] rfl ar ?_; (with_reducible refine (vellumref03_Admits.calls k1 a0_0 _ _ l0_1 _ _ l0_2 _ _ l0_3 _ _ l0_4 _ _ x9_1 t918 _ (Kd.cb HR0_1 HB) HC0_1.out (Kd.cb HR0_2 HB) HC0_2.out (Kd.cb HR0_3 HB) HC0_3.out (Kd.cb HR0_4 HB) HC0_4.out ?side9 ?side10 (Glob.below HG.out (bl HB)) A60.out).mono ?_); (case side9 => repeat (first | exact (Kd.R_reads' HO_9.out).2.2 | (with_reducible refine Kd.C_alloc ?_ _) | (with_reducible refine Kd.C_drewN ?_ _) | (with_reducible refine Kd.C_drew ?_))); (case side10 => exact (Kd.R_reads' HO_9.out).2.1); rintro e w67 ⟨rfl, hb⟩; refine ⟨_, rfl, ?_⟩; have n0_ := am (Kd.R_below (Kd.rr HO_9.out) hb); have n1_ := kb BK913 hb; have n2_ := sb HB hb; clear HO_9; clear BK913; clear HB; have HO_9 := n0_; have BK913 := n1_; have HB := n2_; clear n0_ n1_ n2_; (try clear hb); (try clear hb2 hk hi)))
       go_ret2
       exact ⟨_, er, by first | exact Kd.R_nil _ _ _ _ _ | exact Kd.N_nil _ _ _ _ _ | exact Kd.V_nil _ _ _ _ _ | exact Kd.Q_nil _ _ _ _ _ | exact Kd.S_nil _ _ _ _ _, bl HB⟩
 ·rw [if_neg c5] at H
  have c5b0 : (t914 == 0) = false := beq_eq_false_iff_ne.mpr c5
  have c5b1 : (t914 != 0) = true := bne_iff_ne.mpr c5
  simp only [Option.some.injEq, Prod.mk.injEq] at H
  obtain ⟨rfl, rfl⟩ := H
  go_enter Tryd.func61, Tryd.ntmps61
  go_wp2_with (first | ((with_reducible refine gate_dst (N := 3) rfl ?_); (try (refine gate_guard (by rfl) ?_; dsimp only)); refine box_event rfl (N := 3) rfl (cs := #[.string a0_0, .slice A0_1 l0_1.length c0_1, .slice A0_2 l0_2.length c0_2, .slice A0_3 l0_3.length c0_3, .slice A0_4 l0_4.length c0_4]) (t := 65) gs ?_; intro gb913 hg w68 hbox hb; have BK913 := am (hbox); have GW913 := gw hg HB; have GE913 := gw hg HB; replace HB := sb HB hb; clear hb hbox hg; obtain ⟨Z69_0, Z69_1, Z69_2, Z69_3, Z69_4, Y69_0, Y69_1, Y69_2, Y69_3, Y69_4⟩ := bq5 BK913) | ((with_reducible refine gate_callee (f := 85) rfl ?_); refine goesL_ (some 18) rfl rfl Tryd.func85 (by kernel_rfl) rfl #[.agg #[.string a0_0, .slice A0_1 l0_1.length c0_1, .slice A0_2 l0_2.length c0_2, .slice A0_3 l0_3.length c0_3, .slice A0_4 l0_4.length c0_4], .slice A1 l1.length c1] rfl ar ?_; (with_reducible refine (vellumref03_Admits.calls k a0_0 _ _ l0_1 _ _ l0_2 _ _ l0_3 _ _ l0_4 _ _ l1 t914 _ (Kd.cb HR0_1 HB) HC0_1.out (Kd.cb HR0_2 HB) HC0_2.out (Kd.cb HR0_3 HB) HC0_3.out (Kd.cb HR0_4 HB) HC0_4.out (Kd.cb HR1 HB) HC1.out (Glob.below HG.out (bl HB)) A4.out).mono ?_); rintro e w70 ⟨rfl, hb⟩; refine ⟨_, rfl, ?_⟩; replace BK913 := kb BK913 hb; replace HB := sb HB hb; (try clear hb); (try clear hb2 hk hi)))
  go_ret2
  exact ⟨_, er, by first | exact Kd.R_nil _ _ _ _ _ | exact Kd.N_nil _ _ _ _ _ | exact Kd.V_nil _ _ _ _ _ | exact Kd.Q_nil _ _ _ _ _ | exact Kd.S_nil _ _ _ _ _, bl HB⟩
def vellumlaw04_RowApplies.f (k : Nat) (a0_0 : ByteArray) (l0_1 : List (S105)) (l0_2 : List Int) (l0_3 : List (S115)) (l0_4 : List (S139)) (l1 : List (S50)) (a2 : ByteArray) : Option (Bool) := (row_Apply.f k a0_0 l0_1 l0_2 l0_3 l0_4 l1 a2).bind fun bt935 => ((vellumref04_Apply.f k a0_0 l0_1 l0_2 l0_3 l0_4 l1 a2).bind fun bt939 => (if bt935.2 = bt939.2 then ((vellumref01_SameRow.f k bt935.1 bt939.1).bind fun t943 => (if t943 = true then ((vellumlaw04_awake.f k).bind fun t944 => (some t944)) else (some false))) else (some false)))
set_option maxHeartbeats 8000000 in
set_option maxRecDepth 100000 in
theorem vellumlaw04_RowApplies.calls (k : Nat) (a0_0 : ByteArray) (A0_1 : Option Addr) (c0_1 : Nat) (l0_1 : List (S105)) (A0_2 : Option Addr) (c0_2 : Nat) (l0_2 : List Int) (A0_3 : Option Addr) (c0_3 : Nat) (l0_3 : List (S115)) (A0_4 : Option Addr) (c0_4 : Nat) (l0_4 : List (S139)) (A1 : Option Addr) (c1 : Nat) (l1 : List (S50)) (a2 : ByteArray) (r : Bool) (w : World) (hr0_1 : Kd.C k105 w A0_1 l0_1.length l0_1) (hc0_1 : l0_1.length ≤ c0_1) (hr0_2 : Kd.C (Kd.int .i64) w A0_2 l0_2.length l0_2) (hc0_2 : l0_2.length ≤ c0_2) (hr0_3 : Kd.C k115 w A0_3 l0_3.length l0_3) (hc0_3 : l0_3.length ≤ c0_3) (hr0_4 : Kd.C k139 w A0_4 l0_4.length l0_4) (hc0_4 : l0_4.length ≤ c0_4) (hr1 : Kd.C k50 w A1 l1.length l1) (hc1 : l1.length ≤ c1) (hG : Glob w) (h : vellumlaw04_RowApplies.f k a0_0 l0_1 l0_2 l0_3 l0_4 l1 a2 = some r) :
  Calls Tryd.prog 17 #[.agg #[.string a0_0, .slice A0_1 l0_1.length c0_1, .slice A0_2 l0_2.length c0_2, .slice A0_3 l0_3.length c0_3, .slice A0_4 l0_4.length c0_4], .slice A1 l1.length c1, .string a2] w fun e w' => e = .returned (.bool r) ∧ Below w.heap.size w w' := by
 have hu65 := Tryd.underlying65
 have HR0_1 := am hr0_1
 have HC0_1 := am hc0_1
 clear hr0_1 hc0_1
 have HR0_2 := am hr0_2
 have HC0_2 := am hc0_2
 clear hr0_2 hc0_2
 have HR0_3 := am hr0_3
 have HC0_3 := am hc0_3
 clear hr0_3 hc0_3
 have HR0_4 := am hr0_4
 have HC0_4 := am hc0_4
 clear hr0_4 hc0_4
 have HR1 := am hr1
 have HC1 := am hc1
 clear hr1 hc1
 have HG := am hG
 clear hG
 have HB := am (Below.refl w.heap.size w)
 have H : ((row_Apply.f k a0_0 l0_1 l0_2 l0_3 l0_4 l1 a2).bind fun bt935 => ((vellumref04_Apply.f k a0_0 l0_1 l0_2 l0_3 l0_4 l1 a2).bind fun bt939 => (if bt935.2 = bt939.2 then ((vellumref01_SameRow.f k bt935.1 bt939.1).bind fun t943 => (if t943 = true then ((vellumlaw04_awake.f k).bind fun t944 => (some t944)) else (some false))) else (some false)))) = some r := h
 clear h
 replace H := Option.bind_eq_some_iff.mp H
 obtain ⟨⟨t935, t938⟩, A40, H⟩ := H
 replace H : ((vellumref04_Apply.f k a0_0 l0_1 l0_2 l0_3 l0_4 l1 a2).bind fun bt939 => (if t938 = bt939.2 then ((vellumref01_SameRow.f k t935 bt939.1).bind fun t943 => (if t943 = true then ((vellumlaw04_awake.f k).bind fun t944 => (some t944)) else (some false))) else (some false))) = some r := H
 have A4 := am A40
 clear A40
 replace H := Option.bind_eq_some_iff.mp H
 obtain ⟨⟨t939, t942⟩, A50, H⟩ := H
 replace H : (if t938 = t942 then ((vellumref01_SameRow.f k t935 t939).bind fun t943 => (if t943 = true then ((vellumlaw04_awake.f k).bind fun t944 => (some t944)) else (some false))) else (some false)) = some r := H
 have A5 := am A50
 clear A50
 by_cases c6 : t938 = t942
 ·rw [if_pos c6] at H
  have c6b0 : (t938 == t942) = true := beq_iff_eq.mpr c6
  have c6b1 : (t938 != t942) = false := bne_eq_false_iff_eq.mpr c6
  clear c6
  replace H := Option.bind_eq_some_iff.mp H
  obtain ⟨t943, A70, H⟩ := H
  replace H : (if t943 = true then ((vellumlaw04_awake.f k).bind fun t944 => (some t944)) else (some false)) = some r := H
  have A7 := am A70
  clear A70
  by_cases c8 : t943 = true
  ·subst c8
   have H1 : ((vellumlaw04_awake.f k).bind fun t944 => (some t944)) = some r := by rw [if_pos rfl] at H; exact H
   clear H
   have H := H1
   clear H1
   replace H := Option.bind_eq_some_iff.mp H
   obtain ⟨t944, A90, H⟩ := H
   replace H : (some t944) = some r := H
   have A9 := am A90
   clear A90
   obtain rfl := Option.some.inj H
   go_enter Tryd.func17, Tryd.ntmps17
   go_wp2_with (first | ((with_reducible refine gate_dst (N := 3) rfl ?_); refine box_event rfl (N := 3) rfl (cs := #[.string a0_0, .slice A0_1 l0_1.length c0_1, .slice A0_2 l0_2.length c0_2, .slice A0_3 l0_3.length c0_3, .slice A0_4 l0_4.length c0_4]) (t := 65) gs ?_; intro gb934 hg w10 hbox hb; have BK934 := am (hbox); have GW934 := gw hg HB; have GE934 := gw hg HB; replace HB := sb HB hb; clear hb hbox hg; obtain ⟨Z11_0, Z11_1, Z11_2, Z11_3, Z11_4, Y11_0, Y11_1, Y11_2, Y11_3, Y11_4⟩ := bq5 BK934) | ((with_reducible refine gate_callee (f := 60) rfl ?_); refine goesL_ (some 15) rfl rfl Tryd.func60 (by kernel_rfl) rfl #[.agg #[.string a0_0, .slice A0_1 l0_1.length c0_1, .slice A0_2 l0_2.length c0_2, .slice A0_3 l0_3.length c0_3, .slice A0_4 l0_4.length c0_4], .slice A1 l1.length c1, .string a2] rfl ar ?_; (with_reducible refine (row_Apply.calls k a0_0 _ _ l0_1 _ _ l0_2 _ _ l0_3 _ _ l0_4 _ _ l1 a2 t935 t938 _ (Kd.cb HR0_1 HB) HC0_1.out (Kd.cb HR0_2 HB) HC0_2.out (Kd.cb HR0_3 HB) HC0_3.out (Kd.cb HR0_4 HB) HC0_4.out (Kd.cb HR1 HB) HC1.out (Glob.below HG.out (bl HB)) A4.out).mono ?_); rintro e w12 ⟨v936, rfl, ho0, hb⟩; refine ⟨_, rfl, ?_⟩; have n0_ := am (Kd.R_lower ho0 (below_size (bl HB))); have n1_ := kb BK934 hb; have n2_ := sb HB hb; clear BK934; clear HB; have HO937 := n0_; have BK934 := n1_; have HB := n2_; clear n0_ n1_ n2_; (try clear hb); (try clear hb2 hk hi); (try clear ho0); obtain ⟨Z13_0, Z13_1, Z13_2, Z13_3, Z13_4, Y13_0, Y13_1, Y13_2, Y13_3, Y13_4⟩ := bq5 BK934) | ((with_reducible refine gate_callee (f := 61) rfl ?_); refine goesL_ (some 22) rfl rfl Tryd.func61 (by kernel_rfl) rfl #[.agg #[.string a0_0, .slice A0_1 l0_1.length c0_1, .slice A0_2 l0_2.length c0_2, .slice A0_3 l0_3.length c0_3, .slice A0_4 l0_4.length c0_4], .slice A1 l1.length c1, .string a2] rfl ar ?_; (with_reducible refine (vellumref04_Apply.calls k a0_0 _ _ l0_1 _ _ l0_2 _ _ l0_3 _ _ l0_4 _ _ l1 a2 t939 t942 _ (Kd.cb HR0_1 HB) HC0_1.out (Kd.cb HR0_2 HB) HC0_2.out (Kd.cb HR0_3 HB) HC0_3.out (Kd.cb HR0_4 HB) HC0_4.out (Kd.cb HR1 HB) HC1.out (Glob.below HG.out (bl HB)) A5.out).mono ?_); rintro e w14 ⟨v940, rfl, ho0, hb⟩; refine ⟨_, rfl, ?_⟩; have n0_ := am (Kd.R_elder' (Kd.rr HO937.out) (Kd.R_base ho0) hb); have n1_ := am (Kd.R_lower (Kd.R_new' ho0 (Kd.R_lt (Kd.rr HO937.out))) (below_size (bl HB))); have n2_ := kb BK934 hb; have n3_ := sb HB hb; clear HO937; clear BK934; clear HB; have HO937 := n0_; have HO941 := n1_; have BK934 := n2_; have HB := n3_; clear n0_ n1_ n2_ n3_; (try clear hb); (try clear hb2 hk hi); (try clear ho0); obtain ⟨Ao15, co15, eo15⟩ := Kd.R_slice HO937.out; subst eo15; obtain ⟨Ao16, co16, eo16⟩ := Kd.R_slice HO941.out; subst eo16) | (go_at_call 45; (with_reducible refine (vellumref01_SameRow.calls k _ _ t935 _ _ t939 true _ ?side1 ?side2 ?side3 ?side4 A7.out).mono ?_); (case side1 => repeat (first | exact (Kd.R_reads' HO937.out).2.2 | (with_reducible refine Kd.C_alloc ?_ _) | (with_reducible refine Kd.C_drewN ?_ _) | (with_reducible refine Kd.C_drew ?_))); (case side2 => exact (Kd.R_reads' HO937.out).2.1); (case side3 => repeat (first | exact (Kd.R_reads' HO941.out).2.2 | (with_reducible refine Kd.C_alloc ?_ _) | (with_reducible refine Kd.C_drewN ?_ _) | (with_reducible refine Kd.C_drew ?_))); (case side4 => exact (Kd.R_reads' HO941.out).2.1); rintro e w17 ⟨rfl, hb⟩; have n0_ := am (Kd.R_below (Kd.rr HO937.out) hb); have n1_ := am (Kd.R_below (Kd.rr HO941.out) hb); have n2_ := kb BK934 hb; have n3_ := sb HB hb; clear HO937; clear HO941; clear BK934; clear HB; have HO937 := n0_; have HO941 := n1_; have BK934 := n2_; have HB := n3_; clear n0_ n1_ n2_ n3_; (try clear hb); (try clear hb2 hk hi)) | (go_at_call 54; (with_reducible refine (vellumlaw04_awake.calls k  t944 _ (Glob.below HG.out (bl HB)) A9.out).mono ?_); rintro e w18 ⟨rfl, hb⟩; have n0_ := am (Kd.R_below (Kd.rr HO937.out) hb); have n1_ := am (Kd.R_below (Kd.rr HO941.out) hb); have n2_ := kb BK934 hb; have n3_ := sb HB hb; clear HO937; clear HO941; clear BK934; clear HB; have HO937 := n0_; have HO941 := n1_; have BK934 := n2_; have HB := n3_; clear n0_ n1_ n2_ n3_; (try clear hb); (try clear hb2 hk hi)))
   go_ret
   exact ⟨er, bl HB⟩
  ·replace c8 := Bool.eq_false_iff.mpr c8
   subst c8
   have H1 : (some false) = some r := by rw [if_neg (show ¬ (false = true) by decide)] at H; exact H
   clear H
   have H := H1
   clear H1
   obtain rfl := Option.some.inj H
   go_enter Tryd.func17, Tryd.ntmps17
   go_wp2_with (first | ((with_reducible refine gate_dst (N := 3) rfl ?_); refine box_event rfl (N := 3) rfl (cs := #[.string a0_0, .slice A0_1 l0_1.length c0_1, .slice A0_2 l0_2.length c0_2, .slice A0_3 l0_3.length c0_3, .slice A0_4 l0_4.length c0_4]) (t := 65) gs ?_; intro gb934 hg w19 hbox hb; have BK934 := am (hbox); have GW934 := gw hg HB; have GE934 := gw hg HB; replace HB := sb HB hb; clear hb hbox hg; obtain ⟨Z20_0, Z20_1, Z20_2, Z20_3, Z20_4, Y20_0, Y20_1, Y20_2, Y20_3, Y20_4⟩ := bq5 BK934) | ((with_reducible refine gate_callee (f := 60) rfl ?_); refine goesL_ (some 15) rfl rfl Tryd.func60 (by kernel_rfl) rfl #[.agg #[.string a0_0, .slice A0_1 l0_1.length c0_1, .slice A0_2 l0_2.length c0_2, .slice A0_3 l0_3.length c0_3, .slice A0_4 l0_4.length c0_4], .slice A1 l1.length c1, .string a2] rfl ar ?_; (with_reducible refine (row_Apply.calls k a0_0 _ _ l0_1 _ _ l0_2 _ _ l0_3 _ _ l0_4 _ _ l1 a2 t935 t938 _ (Kd.cb HR0_1 HB) HC0_1.out (Kd.cb HR0_2 HB) HC0_2.out (Kd.cb HR0_3 HB) HC0_3.out (Kd.cb HR0_4 HB) HC0_4.out (Kd.cb HR1 HB) HC1.out (Glob.below HG.out (bl HB)) A4.out).mono ?_); rintro e w21 ⟨v936, rfl, ho0, hb⟩; refine ⟨_, rfl, ?_⟩; have n0_ := am (Kd.R_lower ho0 (below_size (bl HB))); have n1_ := kb BK934 hb; have n2_ := sb HB hb; clear BK934; clear HB; have HO937 := n0_; have BK934 := n1_; have HB := n2_; clear n0_ n1_ n2_; (try clear hb); (try clear hb2 hk hi); (try clear ho0); obtain ⟨Z22_0, Z22_1, Z22_2, Z22_3, Z22_4, Y22_0, Y22_1, Y22_2, Y22_3, Y22_4⟩ := bq5 BK934) | ((with_reducible refine gate_callee (f := 61) rfl ?_); refine goesL_ (some 22) rfl rfl Tryd.func61 (by kernel_rfl) rfl #[.agg #[.string a0_0, .slice A0_1 l0_1.length c0_1, .slice A0_2 l0_2.length c0_2, .slice A0_3 l0_3.length c0_3, .slice A0_4 l0_4.length c0_4], .slice A1 l1.length c1, .string a2] rfl ar ?_; (with_reducible refine (vellumref04_Apply.calls k a0_0 _ _ l0_1 _ _ l0_2 _ _ l0_3 _ _ l0_4 _ _ l1 a2 t939 t942 _ (Kd.cb HR0_1 HB) HC0_1.out (Kd.cb HR0_2 HB) HC0_2.out (Kd.cb HR0_3 HB) HC0_3.out (Kd.cb HR0_4 HB) HC0_4.out (Kd.cb HR1 HB) HC1.out (Glob.below HG.out (bl HB)) A5.out).mono ?_); rintro e w23 ⟨v940, rfl, ho0, hb⟩; refine ⟨_, rfl, ?_⟩; have n0_ := am (Kd.R_elder' (Kd.rr HO937.out) (Kd.R_base ho0) hb); have n1_ := am (Kd.R_lower (Kd.R_new' ho0 (Kd.R_lt (Kd.rr HO937.out))) (below_size (bl HB))); have n2_ := kb BK934 hb; have n3_ := sb HB hb; clear HO937; clear BK934; clear HB; have HO937 := n0_; have HO941 := n1_; have BK934 := n2_; have HB := n3_; clear n0_ n1_ n2_ n3_; (try clear hb); (try clear hb2 hk hi); (try clear ho0); obtain ⟨Ao24, co24, eo24⟩ := Kd.R_slice HO937.out; subst eo24; obtain ⟨Ao25, co25, eo25⟩ := Kd.R_slice HO941.out; subst eo25) | (go_at_call 45; (with_reducible refine (vellumref01_SameRow.calls k _ _ t935 _ _ t939 false _ ?side1 ?side2 ?side3 ?side4 A7.out).mono ?_); (case side1 => repeat (first | exact (Kd.R_reads' HO937.out).2.2 | (with_reducible refine Kd.C_alloc ?_ _) | (with_reducible refine Kd.C_drewN ?_ _) | (with_reducible refine Kd.C_drew ?_))); (case side2 => exact (Kd.R_reads' HO937.out).2.1); (case side3 => repeat (first | exact (Kd.R_reads' HO941.out).2.2 | (with_reducible refine Kd.C_alloc ?_ _) | (with_reducible refine Kd.C_drewN ?_ _) | (with_reducible refine Kd.C_drew ?_))); (case side4 => exact (Kd.R_reads' HO941.out).2.1); rintro e w26 ⟨rfl, hb⟩; have n0_ := am (Kd.R_below (Kd.rr HO937.out) hb); have n1_ := am (Kd.R_below (Kd.rr HO941.out) hb); have n2_ := kb BK934 hb; have n3_ := sb HB hb; clear HO937; clear HO941; clear BK934; clear HB; have HO937 := n0_; have HO941 := n1_; have BK934 := n2_; have HB := n3_; clear n0_ n1_ n2_ n3_; (try clear hb); (try clear hb2 hk hi)))
   go_ret
   exact ⟨er, bl HB⟩
 ·rw [if_neg c6] at H
  have c6b0 : (t938 == t942) = false := beq_eq_false_iff_ne.mpr c6
  have c6b1 : (t938 != t942) = true := bne_iff_ne.mpr c6
  obtain rfl := Option.some.inj H
  go_enter Tryd.func17, Tryd.ntmps17
  go_wp2_with (first | ((with_reducible refine gate_dst (N := 3) rfl ?_); refine box_event rfl (N := 3) rfl (cs := #[.string a0_0, .slice A0_1 l0_1.length c0_1, .slice A0_2 l0_2.length c0_2, .slice A0_3 l0_3.length c0_3, .slice A0_4 l0_4.length c0_4]) (t := 65) gs ?_; intro gb934 hg w27 hbox hb; have BK934 := am (hbox); have GW934 := gw hg HB; have GE934 := gw hg HB; replace HB := sb HB hb; clear hb hbox hg; obtain ⟨Z28_0, Z28_1, Z28_2, Z28_3, Z28_4, Y28_0, Y28_1, Y28_2, Y28_3, Y28_4⟩ := bq5 BK934) | ((with_reducible refine gate_callee (f := 60) rfl ?_); refine goesL_ (some 15) rfl rfl Tryd.func60 (by kernel_rfl) rfl #[.agg #[.string a0_0, .slice A0_1 l0_1.length c0_1, .slice A0_2 l0_2.length c0_2, .slice A0_3 l0_3.length c0_3, .slice A0_4 l0_4.length c0_4], .slice A1 l1.length c1, .string a2] rfl ar ?_; (with_reducible refine (row_Apply.calls k a0_0 _ _ l0_1 _ _ l0_2 _ _ l0_3 _ _ l0_4 _ _ l1 a2 t935 t938 _ (Kd.cb HR0_1 HB) HC0_1.out (Kd.cb HR0_2 HB) HC0_2.out (Kd.cb HR0_3 HB) HC0_3.out (Kd.cb HR0_4 HB) HC0_4.out (Kd.cb HR1 HB) HC1.out (Glob.below HG.out (bl HB)) A4.out).mono ?_); rintro e w29 ⟨v936, rfl, ho0, hb⟩; refine ⟨_, rfl, ?_⟩; have n0_ := am (Kd.R_lower ho0 (below_size (bl HB))); have n1_ := kb BK934 hb; have n2_ := sb HB hb; clear BK934; clear HB; have HO937 := n0_; have BK934 := n1_; have HB := n2_; clear n0_ n1_ n2_; (try clear hb); (try clear hb2 hk hi); (try clear ho0); obtain ⟨Z30_0, Z30_1, Z30_2, Z30_3, Z30_4, Y30_0, Y30_1, Y30_2, Y30_3, Y30_4⟩ := bq5 BK934) | ((with_reducible refine gate_callee (f := 61) rfl ?_); refine goesL_ (some 22) rfl rfl Tryd.func61 (by kernel_rfl) rfl #[.agg #[.string a0_0, .slice A0_1 l0_1.length c0_1, .slice A0_2 l0_2.length c0_2, .slice A0_3 l0_3.length c0_3, .slice A0_4 l0_4.length c0_4], .slice A1 l1.length c1, .string a2] rfl ar ?_; (with_reducible refine (vellumref04_Apply.calls k a0_0 _ _ l0_1 _ _ l0_2 _ _ l0_3 _ _ l0_4 _ _ l1 a2 t939 t942 _ (Kd.cb HR0_1 HB) HC0_1.out (Kd.cb HR0_2 HB) HC0_2.out (Kd.cb HR0_3 HB) HC0_3.out (Kd.cb HR0_4 HB) HC0_4.out (Kd.cb HR1 HB) HC1.out (Glob.below HG.out (bl HB)) A5.out).mono ?_); rintro e w31 ⟨v940, rfl, ho0, hb⟩; refine ⟨_, rfl, ?_⟩; have n0_ := am (Kd.R_elder' (Kd.rr HO937.out) (Kd.R_base ho0) hb); have n1_ := am (Kd.R_lower (Kd.R_new' ho0 (Kd.R_lt (Kd.rr HO937.out))) (below_size (bl HB))); have n2_ := kb BK934 hb; have n3_ := sb HB hb; clear HO937; clear BK934; clear HB; have HO937 := n0_; have HO941 := n1_; have BK934 := n2_; have HB := n3_; clear n0_ n1_ n2_ n3_; (try clear hb); (try clear hb2 hk hi); (try clear ho0)))
  go_ret
  exact ⟨er, bl HB⟩
end Go.Proofs.YtpiifdbicibelaaDoor.PA
end
section
namespace Go.Proofs.YtpiifdbicibelaaDoor.Pure
open Go.RowKit Go.Proofs Go.Proofs.YtpiifdbicibelaaDoorW.PrintWords Go.Proofs.YtpiifdbicibelaaDoorW.PrintLast Go.Proofs.YtpiifdbicibelaaDoorW.PrintMore Go.Proofs.YtpiifdbicibelaaDoor.PA Go.Proofs.YtpiifdbicibelaaDoor.OpenK
set_option linter.unusedVariables false
set_option linter.unusedSimpArgs false
def appOut (c : List S105) : Option (List S50) → List S50 × Int
 | none => ([], 41)
 | some o => if admRow c o = 0 then (o, 0) else ([], 41)
theorem one_slice' {α : Type} {ys : List α} {i : Nat} (h : i < ys.length) : (ys.take (i + 1)).drop i = [ys[i]] := by
 rw [List.take_succ_eq_append_getElem h, List.drop_append_of_le_length (by simp; omega), List.drop_of_length_le (by simp; omega)]
 rfl
theorem kinds_get {c : List S105} {i : Nat} (h : i < c.length) : rd (kindsOf c) (i : Int) = c[i].f1 := by
 rw [rd_int (by simpa [kindsOf] using h)]
 simp [kindsOf]
theorem rowR_one {k : Int} {L : List Int} {vs : List S50} {R : List Int} (hk : 1 ≤ k ∧ k ≤ 5) (hL : Bytes L) (hlen : L.length ≤ 65536) (h : rowR [k] L = some (vs, R)) :
  ∃ w, vs = [w] ∧ L = rowB [w] ++ R ∧ wf50 w ∧ w.f3.size ≤ 65536 ∧ R.length ≤ L.length ∧ R = L.drop (L.length - R.length) := by
 obtain ⟨h1, h2, h3⟩ := rowR_sound (fun x hx => by rw [List.mem_singleton] at hx; subst hx; exact hk) hL hlen h
 have hl := rowR_len h
 match vs, h2 with
 | [w], _ =>
  refine ⟨w, rfl, h1, (h3 w (by simp)).1, (h3 w (by simp)).2, hl, ?_⟩
  have hll := congrArg List.length h1
  rw [List.length_append] at hll
  have e2 : L.length - R.length = (rowB [w]).length := by omega
  rw [e2]
  conv => rhs; rw [h1]
  simp
theorem admRow_set {c : List S105} {out : List S50} {i : Nat} {w : S50} (hl : out.length = c.length) (hi : i < c.length) (h : admRow c out = 0) (hw : fitB c[i] w = true) : admRow c (out.set i w) = 0 := by
 rw [admRow_iff c _ (by rw [List.length_set]; exact hl)]
 intro j h1 h2
 rw [List.length_set] at h1
 rw [List.getElem_set]
 split
 ·rename_i e; subst e; exact hw
 ·exact (admRow_iff c out hl).1 h j h1 h2
theorem admRow_bad {c : List S105} {ys : List S50} {i : Nat} {w : S50} (hl : ys.length = c.length) (hi : i < c.length) (hy : ys[i]? = some w) (hw : ¬ fitB c[i] w = true) : ¬ admRow c ys = 0 := by
 intro h
 have hi2 : i < ys.length := by omega
 have := (admRow_iff c ys hl).1 h i hi2 hi
 rw [List.getElem?_eq_getElem hi2, Option.some.injEq] at hy
 rw [hy] at this
 exact hw this
theorem admRow_one (c : S105) (w : S50) : admRow [c] [w] = 0 ↔ fitB c w = true := by
 rw [admRow_cons]; simp [admRow]
theorem app_code (c : List S105) (hc : c.length ≤ 64) (hk : ∀ x ∈ c, 1 ≤ x.f1 ∧ x.f1 ≤ 5) (l : List S50) (hll : l.length = c.length) (a : ByteArray) (d : List Int) (e : List S115) (f : List S139) :
  ∀ (n nx : Nat) (out : List S50) (L : List Int), L.length < n → Bytes L → L.length ≤ 65536 → nx ≤ l.length → out.length = c.length → admRow c out = 0 →
  Ev (fun k => row_Apply.l0 k l (strOfNums L) out (nx : Int) a c d e f) (appOut c (appR (kindsOf c) l n nx out L))
 | 0, nx, out, L, hn, _, _, _, _, _ => by omega
 | n + 1, nx, out, L, hn, hL, hlen, hnx, hol, hadm => by
  by_cases h0 : L = []
  ·refine Ev.from_ 1 fun k => ?_
   simp only [row_Apply.l0]
   rw [if_pos (str_empty.2 h0)]
   simp only [appR]
   rw [if_pos h0]
   simp only [appOut]
   rw [if_pos hadm]
  have hvar := varint_ev L hL (by omega)
  have hw1 : True → IntKind.u64.wrap (wrap64 ((l.length : Int) - (nx : Int))) = ((l.length - nx : Nat) : Int) := fun _ => by rw [wrap64_id (by omega) (by omega), u64_wrap_id (by omega) (by omega)]; omega
  have bad : ∀ (x y : Int) (s : ByteArray), Ev (fun k => row_Apply.j1 k l out x y s true a c d e f) (([] : List S50), (41 : Int)) := fun x y s => Ev.from_ 1 fun k => by
   simp only [row_Apply.j1]; rw [if_pos trivial]
  simp only [appR]
  rw [if_neg h0]
  cases hv : vr 0 L with
  | none =>
   rw [hv] at hvar
   refine Ev.dep2 hvar (bad (nx : Int) 0 (⟨#[]⟩ : ByteArray)) fun k hk1 hk2 => ?_
   simp only [row_Apply.l0]
   rw [if_neg (fun g => h0 (str_empty.1 g)), hk1]
   simp only [Option.bind_some]
   rw [if_neg (by decide)]
   exact hk2
  | some p =>
   obtain ⟨dd, R⟩ := p
   rw [hv] at hvar
   obtain ⟨v1, _, _, _⟩ := vr_sound 0 L dd R hL hv
   have hR : Bytes R := by rw [v1] at hL; exact hL.app.2
   have hl1 := vr_len 0 L dd R hv
   simp only
   by_cases hd : l.length - nx ≤ dd
   ·rw [if_pos hd]
    refine Ev.dep2 hvar (bad (nx : Int) (dd : Int) (strOfNums R)) fun k hk1 hk2 => ?_
    simp only [row_Apply.l0]
    rw [if_neg (fun g => h0 (str_empty.1 g)), hk1]
    simp only [Option.bind_some]
    rw [if_pos trivial, hw1 trivial, decide_eq_true (by omega)]
    exact hk2
   ·rw [if_neg hd]
    have hi : nx + dd < c.length := by omega
    have hil : nx + dd < l.length := by omega
    have hio : nx + dd < out.length := by omega
    have hki := hk _ (List.getElem_mem hi)
    rw [kinds_get hi]
    have hw2 : True → wrap64 ((nx : Int) + (wrap64 (dd : Int))) = ((nx + dd : Nat) : Int) := fun _ => by rw [wrap64_id (n := (dd : Int)) (by omega) (by omega), wrap64_id (by omega) (by omega)]; omega
    have hw3 : True → wrap64 (((nx + dd : Nat) : Int) + 1) = ((nx + dd + 1 : Nat) : Int) := fun _ => wrap_one (nx + dd) (by omega)
    obtain ⟨r, r1, r2⟩ := decode_ev4 [c[nx + dd]] (by simp) (fun x hx => by rw [List.mem_singleton] at hx; subst hx; exact hki) R hR (by omega)
    have hkk : kindsOf [c[nx + dd]] = [c[nx + dd].f1] := rfl
    rw [hkk] at r2
    have hj : ∀ v : List S50 × Int, Ev (fun k => row_Apply.j1 k l out (nx : Int) (dd : Int) (strOfNums R) false a c d e f) v → Ev (fun k => row_Apply.l0 k l (strOfNums L) out (nx : Int) a c d e f) v := fun v hv2 => by
     refine Ev.dep2 hvar hv2 fun k hk1 hk2 => ?_
     simp only [row_Apply.l0]
     rw [if_neg (fun g => h0 (str_empty.1 g)), hk1]
     simp only [Option.bind_some]
     rw [if_pos trivial, hw1 trivial, decide_eq_false (by omega)]
     exact hk2
    have jj : ∀ k, row_Apply.j1 (k + 1) l out (nx : Int) (dd : Int) (strOfNums R) false a c d e f = (row_decode.f k [c[nx + dd]] (strOfNums R)).bind fun bt896 => (if bt896.2.2 = true then (if 0 < (bt896.1.length : Int) then ((row_same.f ((rd_T50 bt896.1 0).f0) ((rd_T50 bt896.1 0).f1) ((rd_T50 bt896.1 0).f2) ((rd_T50 bt896.1 0).f3) (l[nx + dd].f0) (l[nx + dd].f1) (l[nx + dd].f2) (l[nx + dd].f3)).bind fun t903 => (if t903 = true then (some (([] : List (S50)), 41)) else (row_Apply.l0 k l bt896.2.1 (out.set (nx + dd) (⟨(rd_T50 bt896.1 0).f0, (rd_T50 bt896.1 0).f1, (rd_T50 bt896.1 0).f2, (rd_T50 bt896.1 0).f3⟩ : S50)) ((nx + dd + 1 : Nat) : Int) a c d e f))) else (none)) else (some (([] : List (S50)), 41))) := by
     intro k
     simp only [row_Apply.j1, hw2 trivial, hw3 trivial]
     have t1 : (0 : Int) ≤ ((nx + dd : Nat) : Int) := by omega
     have t2 : ((nx + dd : Nat) : Int) ≤ ((nx + dd + 1 : Nat) : Int) := by omega
     have t3 : ((nx + dd + 1 : Nat) : Int) ≤ (c.length : Int) := by omega
     have t4 : ((nx + dd : Nat) : Int) < (l.length : Int) := by omega
     have t5 : ((nx + dd : Nat) : Int) < (out.length : Int) := by omega
     rw [if_neg (by decide)]
     simp only [if_pos t1, if_pos t2, if_pos t3, if_pos t4, if_pos t5, Int.toNat_natCast, one_slice' hi, rd_get l (nx + dd) _ (List.getElem?_eq_getElem hil)]
    cases hr : rowR [c[nx + dd].f1] R with
    | none =>
     rw [hr] at r2
     refine hj _ (Ev.step jj (Ev.bind r1 (Ev.neg (by rw [show r.2.2 = false from r2]; decide) Ev.pure)))
    | some q =>
     obtain ⟨vs, R'⟩ := q
     rw [hr] at r2
     obtain ⟨w, rfl, e1, w1, w2, hl2, _⟩ := rowR_one hki hR (by omega) hr
     have hR' : Bytes R' := by rw [e1] at hR; exact hR.app.2
     simp only [decSpec] at r2
     simp only
     rw [rd_get l (nx + dd) _ (List.getElem?_eq_getElem hil)]
     by_cases hf : fitB c[nx + dd] w = true
     ·rw [if_pos ((admRow_one _ _).2 hf)] at r2
      subst r2
      refine hj _ (Ev.step jj (Ev.bind r1 (Ev.pos rfl (Ev.pos (by show (0 : Int) < 1; decide) ?_))))
      have hrd : rd_T50 ([] ++ [w]) 0 = w := rfl
      simp only [hrd]
      refine Ev.bind (Ev.const (sm_code w l[nx + dd])) ?_
      cases hs : smB w l[nx + dd] with
      | true =>
       rw [if_pos rfl]
       exact Ev.pos rfl Ev.pure
      | false =>
       rw [if_neg (by decide)]
       refine Ev.neg (by decide) ?_
       exact app_code c hc hk l hll a d e f n (nx + dd + 1) (out.set (nx + dd) w) R' (by omega) hR' (by omega) (by omega) (by rw [List.length_set]; exact hol) (admRow_set hol hi hadm hf)
     ·rw [if_neg (fun g => hf ((admRow_one _ _).1 g))] at r2
      have hres : Ev (fun k => row_Apply.l0 k l (strOfNums L) out (nx : Int) a c d e f) (([] : List S50), (41 : Int)) := hj _ (Ev.step jj (Ev.bind r1 (Ev.neg (by rw [r2]; decide) Ev.pure)))
      cases hs : smB w l[nx + dd] with
      | true =>
       rw [if_pos rfl]
       exact hres
      | false =>
       rw [if_neg (by decide)]
       cases ha : appR (kindsOf c) l n (nx + dd + 1) (out.set (nx + dd) w) R' with
       | none => exact hres
       | some ys =>
        obtain ⟨k1, k2⟩ := app_keep _ _ _ _ _ _ _ ha
        rw [List.length_set] at k1
        have := k2 (nx + dd) (by omega)
        rw [List.getElem?_set_self hio] at this
        have hb := admRow_bad (by omega) hi this hf
        have e2 : appOut c (some ys) = ([], 41) := if_neg hb
        rw [e2]; exact hres
theorem app_ref {a : ByteArray} {c : List S105} {d : List Int} {e : List S115} {f : List S139} (h : WfT a c d e f) (hcl : c.length < 9223372036854775807) (he : e.length < 9223372036854775807) (hf : f.length < 9223372036854775807)
  (h0 : checkT a c d e f = 0) (l : List S50) (hll : l.length = c.length) (L : List Int) (hL : Bytes L) (hlen : L.length ≤ 65536) :
  ∀ (n nx at_ : Nat) (out : List S50), L.length - at_ < n → at_ ≤ L.length → nx ≤ l.length → out.length = c.length → (∀ v ∈ out, wf50 v) →
  Ev (fun k => vellumref04_Apply.l0 k l (strOfNums L) out ((nx : Int) - 1) (at_ : Int) a c d e f) (appOut c (appR (kindsOf c) l n nx out (L.drop at_)))
 | 0, nx, at_, out, hn, _, _, _, _ => by omega
 | n + 1, nx, at_, out, hn, hat, hnx, hol, hwo => by
  have hc := checkT_len h0
  have hk := kinds_ok h0
  have hD : Bytes (L.drop at_) := hL.drop _
  have hdl : (L.drop at_).length = L.length - at_ := List.length_drop
  simp only [appR]
  by_cases hz : L.drop at_ = []
  ·have : at_ = L.length := by have := congrArg List.length hz; rw [hdl] at this; simp at this; omega
   rw [if_pos hz]
   refine Ev.step (g := fun k => ((vellumref03_Admits.f k a c d e f out).bind fun t918 => (if t918 = 0 then (some (out, (0 : Int))) else (some (([] : List (S50)), (41 : Int)))))) (fun k => ?_) (Ev.bind (admits_ev a c d e f out h hcl he hf (by omega) (fun v hv => (hwo v hv).2.2.2)) ?_)
   ·simp only [vellumref04_Apply.l0, str_size]
    rw [if_neg (by omega)]
   ·simp only [appOut]
    by_cases ha : admRow c out = 0
    ·have e1 : (if admRow c out = 0 then ((out, 0) : List S50 × Int) else ([], 41)) = (out, 0) := if_pos ha
     rw [e1]
     exact Ev.pos ((admT_iff h0).2 ⟨hol, ha⟩) Ev.pure
    ·have e1 : (if admRow c out = 0 then ((out, 0) : List S50 × Int) else ([], 41)) = ([], 41) := if_neg ha
     rw [e1]
     exact Ev.neg (fun g => ha ((admT_iff h0).1 g).2) Ev.pure
  have hlt : at_ < L.length := by
   rcases Nat.lt_or_ge at_ L.length with g | g
   ·exact g
   ·exact absurd (List.drop_of_length_le g) hz
  rw [if_neg hz]
  have hx : (strOfNums L).extract (((at_ : Nat) : Int)).toNat L.length = strOfNums (L.drop at_) := str_drop' L at_
  have hnum := number_ev4 (L.drop at_) hD (by omega)
  have hw1 : True → IntKind.u64.wrap (wrap64 ((wrap64 ((l.length : Int) - ((nx : Int) - 1))) - 1)) = ((l.length - nx : Nat) : Int) := fun _ => by rw [wrap64_id (n := (l.length : Int) - ((nx : Int) - 1)) (by omega) (by omega), wrap64_id (by omega) (by omega), u64_wrap_id (by omega) (by omega)]; omega
  have bad : ∀ (x y : Int), Ev (fun k => vellumref04_Apply.j1 k l (strOfNums L) out ((nx : Int) - 1) (at_ : Int) x y true a c d e f) (([] : List S50), (41 : Int)) := fun x y => Ev.from_ 1 fun k => by
   simp only [vellumref04_Apply.j1]; rw [if_pos trivial]
  cases hv : vr 0 (L.drop at_) with
  | none =>
   rw [hv] at hnum
   refine Ev.dep2 hnum (bad 0 0) fun k hk1 hk2 => ?_
   simp only [vellumref04_Apply.l0, str_size]
   rw [if_pos (by omega), if_pos (by omega), if_pos (by omega), hx, hk1]
   simp only [Option.bind_some]
   rw [if_pos trivial]
   exact hk2
  | some p =>
   obtain ⟨dd, R⟩ := p
   rw [hv] at hnum
   obtain ⟨v1, _, _, _⟩ := vr_sound 0 (L.drop at_) dd R hD hv
   have hR : Bytes R := by rw [v1] at hD; exact hD.app.2
   have hl1 := vr_len 0 (L.drop at_) dd R hv
   have hne : ¬ (((L.drop at_).length - R.length : Nat) : Int) = 0 := by omega
   simp only
   by_cases hd : l.length - nx ≤ dd
   ·rw [if_pos hd]
    refine Ev.dep2 hnum (bad (dd : Int) (((L.drop at_).length - R.length : Nat) : Int)) fun k hk1 hk2 => ?_
    simp only [vellumref04_Apply.l0, str_size]
    rw [if_pos (by omega), if_pos (by omega), if_pos (by omega), hx, hk1]
    simp only [Option.bind_some]
    rw [if_neg hne, hw1 trivial, decide_eq_true (by omega)]
    exact hk2
   ·rw [if_neg hd]
    have hi : nx + dd < c.length := by omega
    have hil : nx + dd < l.length := by omega
    have hio : nx + dd < out.length := by omega
    have hki := hk _ (List.getElem_mem hi)
    rw [kinds_get hi]
    have hRd : R = L.drop (at_ + ((L.drop at_).length - R.length)) := by
     have hll := congrArg List.length v1
     rw [List.length_append] at hll
     have e2 : (L.drop at_).length - R.length = (vb dd).length := by omega
     rw [e2, ← List.drop_drop]
     conv => rhs; rw [v1]
     simp
    generalize hat2 : at_ + ((L.drop at_).length - R.length) = at2 at hRd
    have hat2l : at2 ≤ L.length := by omega
    have hw2 : True → wrap64 ((wrap64 (((nx : Int) - 1) + 1)) + (wrap64 (dd : Int))) = ((nx + dd : Nat) : Int) := fun _ => by rw [wrap64_id (n := (dd : Int)) (by omega) (by omega), wrap64_id (n := ((nx : Int) - 1) + 1) (by omega) (by omega), wrap64_id (by omega) (by omega)]; omega
    have hw3 : True → wrap64 ((at_ : Int) + (((L.drop at_).length - R.length : Nat) : Int)) = (at2 : Int) := fun _ => by rw [wrap64_id (by omega) (by omega)]; omega
    have hx2 : (strOfNums L).extract (((at2 : Nat) : Int)).toNat L.length = strOfNums R := by rw [hRd]; exact str_drop' L at2
    obtain ⟨r, r1, r2⟩ := values_ev [c[nx + dd].f1] (by simp) (fun x hx => by rw [List.mem_singleton] at hx; subst hx; exact hki) R hR (by omega)
    have hj : ∀ v : List S50 × Int, Ev (fun k => vellumref04_Apply.j1 k l (strOfNums L) out ((nx : Int) - 1) (at_ : Int) (dd : Int) (((L.drop at_).length - R.length : Nat) : Int) false a c d e f) v → Ev (fun k => vellumref04_Apply.l0 k l (strOfNums L) out ((nx : Int) - 1) (at_ : Int) a c d e f) v := fun v hv2 => by
     refine Ev.dep2 hnum hv2 fun k hk1 hk2 => ?_
     simp only [vellumref04_Apply.l0, str_size]
     rw [if_pos (by omega), if_pos (by omega), if_pos (by omega), hx, hk1]
     simp only [Option.bind_some]
     rw [if_neg hne, hw1 trivial, decide_eq_false (by omega)]
     exact hk2
    have jj : ∀ k, vellumref04_Apply.j1 (k + 1) l (strOfNums L) out ((nx : Int) - 1) (at_ : Int) (dd : Int) (((L.drop at_).length - R.length : Nat) : Int) false a c d e f = (vellumref04_values.f k [c[nx + dd].f1] (strOfNums R)).bind fun bt925 => (if bt925.2 < 0 then (some (([] : List (S50)), 41)) else (if 0 < (bt925.1.length : Int) then ((vellumref01_Same.f ((rd_T50 bt925.1 0).f0) ((rd_T50 bt925.1 0).f1) ((rd_T50 bt925.1 0).f2) ((rd_T50 bt925.1 0).f3) (l[nx + dd].f0) (l[nx + dd].f1) (l[nx + dd].f2) (l[nx + dd].f3)).bind fun t931 => (if t931 = true then (some (([] : List (S50)), 41)) else (vellumref04_Apply.l0 k l (strOfNums L) (out.set (nx + dd) (⟨(rd_T50 bt925.1 0).f0, (rd_T50 bt925.1 0).f1, (rd_T50 bt925.1 0).f2, (rd_T50 bt925.1 0).f3⟩ : S50)) ((nx + dd : Nat) : Int) (wrap64 ((at2 : Int) + bt925.2)) a c d e f))) else (none))) := by
     intro k
     simp only [vellumref04_Apply.j1, hw2 trivial, hw3 trivial, str_size]
     have t1 : (0 : Int) ≤ ((nx + dd : Nat) : Int) := by omega
     have t2 : ((nx + dd : Nat) : Int) < (c.length : Int) := by omega
     have t3 : (0 : Int) ≤ (at2 : Int) := by omega
     have t4 : (at2 : Int) ≤ (L.length : Int) := by omega
     have t5 : ((nx + dd : Nat) : Int) < (l.length : Int) := by omega
     have t6 : ((nx + dd : Nat) : Int) < (out.length : Int) := by omega
     rw [if_neg (by decide)]
     simp only [if_pos t1, if_pos t2, if_pos t3, if_pos t4, if_pos t5, if_pos t6, hx2, rd105_get c (nx + dd) hi, rd_get l (nx + dd) _ (List.getElem?_eq_getElem hil), Int.toNat_natCast]
     have hx3 : (strOfNums L).extract at2 L.length = strOfNums R := hx2
     rw [hx3]
    cases hr : rowR [c[nx + dd].f1] R with
    | none =>
     rw [hr] at r2
     have r2 : r = _ := r2
     subst r2
     exact hj _ (Ev.step jj (Ev.bind r1 (Ev.pos (by decide) Ev.pure)))
    | some q =>
     obtain ⟨vs, R'⟩ := q
     rw [hr] at r2
     obtain ⟨w, rfl, e1, w1, w2, hl2, hR2⟩ := rowR_one hki hR (by omega) hr
     obtain ⟨r2, _⟩ := r2
     subst r2
     simp only
     rw [rd_get l (nx + dd) _ (List.getElem?_eq_getElem hil)]
     refine hj _ (Ev.step jj (Ev.bind r1 (Ev.neg (by show ¬ ((R.length - R'.length : Nat) : Int) < 0; omega) (Ev.pos (by show (0 : Int) < 1; decide) ?_))))
     have hrd : rd_T50 ([] ++ [w]) 0 = w := rfl
     simp only [hrd]
     refine Ev.bind (Ev.const (sm_ref w l[nx + dd])) ?_
     cases hs : smB w l[nx + dd] with
     | true =>
      rw [if_pos rfl]
      exact Ev.pos rfl Ev.pure
     | false =>
      rw [if_neg (by decide)]
      refine Ev.neg (by decide) ?_
      have hRl : R.length = L.length - at2 := by rw [hRd, List.length_drop]
      have e3 : True → wrap64 ((at2 : Int) + ((R.length - R'.length : Nat) : Int)) = ((at2 + (R.length - R'.length) : Nat) : Int) := fun _ => by rw [wrap64_id (by omega) (by omega)]; omega
      have e4 : R' = L.drop (at2 + (R.length - R'.length)) := by
       rw [← List.drop_drop, ← hRd]; exact hR2
      have e5 : ((nx + dd : Nat) : Int) = ((nx + dd + 1 : Nat) : Int) - 1 := by omega
      have ih := app_ref h hcl he hf h0 l hll L hL hlen n (nx + dd + 1) (at2 + (R.length - R'.length)) (out.set (nx + dd) w) (by omega) (by omega) (by omega) (by rw [List.length_set]; exact hol) (fun v hv => by
       rcases List.mem_or_eq_of_mem_set hv with g | g
       ·exact hwo v g
       ·rw [g]; exact w1)
      rw [← e4] at ih
      simp only [e3 trivial]
      rw [e5]
      exact ih
def appRes (a : ByteArray) (c : List S105) (d : List Int) (e : List S115) (f : List S139) (l : List S50) (L : List Int) : List S50 × Int :=
 if admT a c d e f l = 0 then (if 65536 < L.length then ([], 3) else appOut c (appR (kindsOf c) l (L.length + 100) 0 l L)) else ([], admT a c d e f l)
theorem appRes_code {a : ByteArray} {c : List S105} {d : List Int} {e : List S115} {f : List S139} (h : WfT a c d e f) {l : List S50} (hl : ∀ v ∈ l, wf50 v) {L : List Int} (hL : Bytes L) : Ev (fun k => row_Apply.f k a c d e f l (strOfNums L)) (appRes a c d e f l L) := by
 simp only [row_Apply.f, admits_f h hl, Option.bind_some, str_size]
 unfold appRes
 by_cases h0 : admT a c d e f l = 0
 ·rw [if_pos h0]
  refine Ev.pos h0 ?_
  by_cases hb : 65536 < L.length
  ·rw [if_pos hb]; exact Ev.pos (by omega) Ev.pure
  ·rw [if_neg hb]
   have hch := admT_check h0
   obtain ⟨h1, h2⟩ := (admT_iff hch).1 h0
   have hc := checkT_len hch
   refine Ev.neg (by omega) (Ev.pos (by rw [List.length_nil]; omega) ?_)
   exact app_code c hc (kinds_ok hch) l h1 a d e f (L.length + 100) 0 l L (by omega) hL (by omega) (by omega) h1 h2
 ·rw [if_neg h0]; exact Ev.neg h0 Ev.pure
theorem row_copy (l : List S50) (hl : l.length * 40 ≤ 140737488351232) : Ev (fun k => vellumref01_Row.f k l) l := by
 have go : ∀ (m i : Nat), i + m = l.length → Ev (fun k => vellumref01_Row.l0 k l (l.take i) (i : Int)) l := by
  intro m
  induction m with
  | zero =>
   intro i hi
   refine Ev.from_ 1 fun k => ?_
   simp only [vellumref01_Row.l0]
   rw [if_neg (by omega), List.take_of_length_le (by omega)]
  | succ m ih =>
   intro i hi
   have hlt : i < l.length := by omega
   refine Ev.step (fun k => ?_) (ih (i + 1) (by omega))
   simp only [vellumref01_Row.l0]
   have htl : (l.take i).length = i := by rw [List.length_take]; omega
   rw [if_pos (by omega), if_pos (by omega), if_pos (by omega), rd_get l i _ (List.getElem?_eq_getElem hlt), wrap64_id (by omega) (by omega), List.take_succ_eq_append_getElem hlt]
   rfl
 exact go l.length 0 (by omega)
theorem appRes_ref {a : ByteArray} {c : List S105} {d : List Int} {e : List S115} {f : List S139} (h : WfT a c d e f) (hc : c.length < 9223372036854775807) (he : e.length < 9223372036854775807) (hf : f.length < 9223372036854775807) {l : List S50} (hl : ∀ v ∈ l, wf50 v) (hll : l.length * 40 ≤ 140737488351232) {L : List Int} (hL : Bytes L) : Ev (fun k => vellumref04_Apply.f k a c d e f l (strOfNums L)) (appRes a c d e f l L) := by
 simp only [vellumref04_Apply.f, str_size]
 refine Ev.bind (admits_ev a c d e f l h hc he hf (by omega) (fun v hv => (hl v hv).2.2.2)) ?_
 unfold appRes
 by_cases h0 : admT a c d e f l = 0
 ·rw [if_pos h0]
  refine Ev.pos h0 ?_
  by_cases hb : 65536 < L.length
  ·rw [if_pos hb]; exact Ev.pos (by omega) Ev.pure
  ·rw [if_neg hb]
   have hch := admT_check h0
   obtain ⟨h1, h2⟩ := (admT_iff hch).1 h0
   refine Ev.neg (by omega) (Ev.bind (row_copy l hll) ?_)
   exact app_ref h hc he hf hch l h1 L hL (by omega) (L.length + 100) 0 0 l (by omega) (by omega) (by omega) h1 hl
 ·rw [if_neg h0]; exact Ev.neg h0 Ev.pure
theorem appRes_len {a : ByteArray} {c : List S105} {d : List Int} {e : List S115} {f : List S139} {l : List S50} {L : List Int} : (appRes a c d e f l L).1.length ≤ 64 := by
 unfold appRes
 by_cases h0 : admT a c d e f l = 0
 ·rw [if_pos h0]
  by_cases hb : 65536 < L.length
  ·rw [if_pos hb]; simp
  ·rw [if_neg hb]
   have hch := admT_check h0
   have hc := checkT_len hch
   obtain ⟨h1, h2⟩ := (admT_iff hch).1 h0
   cases ha : appR (kindsOf c) l (L.length + 100) 0 l L with
   | none => simp [appOut]
   | some ys =>
    obtain ⟨k1, _⟩ := app_keep _ _ _ _ _ _ _ ha
    simp only [appOut]
    split
    ·simp only; omega
    ·simp
 ·rw [if_neg h0]; simp
theorem RowApplies (x0 : S65) (l1 : List S50) (a2 : ByteArray) (h0 : wf65 x0) (h1 : l1.length * 40 ≤ 140737488351232 ∧ ∀ y ∈ l1, wf50 y) (h2 : a2.size ≤ 140737488351232) : ∃ k, vellumlaw04_RowApplies.f k x0.f0 x0.f1 x0.f2 x0.f3 x0.f4 l1 a2 = some true := by
 refine Ev.ex ?_
 simp only [vellumlaw04_RowApplies.f]
 have hT := wf65_T h0
 obtain ⟨_, g1, _, g3, g4⟩ := h0
 have hL := bytesOf_bytes a2
 have c1 := appRes_code hT h1.2 hL
 have c2 := appRes_ref hT (by omega) (by omega) (by omega) h1.2 h1.1 hL
 rw [str_bytes] at c1 c2
 have hlen := appRes_len (a := x0.f0) (c := x0.f1) (d := x0.f2) (e := x0.f3) (f := x0.f4) (l := l1) (L := bytesOf a2)
 refine Ev.bind c1 (Ev.bind c2 (Ev.pos rfl (Ev.bind (same_ref _ _ (by omega)) (Ev.pos ?_ (Ev.bind awake4_ev Ev.pure)))))
 rw [decide_eq_true rfl, sameL_self]; rfl
end Go.Proofs.YtpiifdbicibelaaDoor.Pure
end
section
namespace Go.Proofs.YtpiifdbicibelaaDoor
open Go.RowKit
theorem main_ : Tryd.pinned.checked.prog.mainIs = some (true, "409e20a6319c123f59629b35fea50f486835097bfbed967dc062cdc0fc9eff79".toList) := by kernel_rfl
theorem looks_ : false = Tryd.prog.looks [] := by kernel_rfl
end Go.Proofs.YtpiifdbicibelaaDoor
end
section
namespace Go.Proofs.YtpiifdbicibelaaDoor.rowApplies
open Go.ChangeShapes Go.WideShapes Go.ChangeAt Go.RowKit Go.Proofs.YtpiifdbicibelaaDoorW.PrintWords Go.Proofs.YtpiifdbicibelaaDoor.PA Go.Proofs.YtpiifdbicibelaaDoor.OpenK Go.Proofs.YtpiifdbicibelaaDoor.Pure
open Go.ChangeMaps (open_string shut_string)
set_option linter.unusedVariables false
theorem walk {H : Type} {enc : TypeId × Value → H} (W : World) (base : Nat) (args : Array Value) (ds : List (DataW H)) (ps : List MemPlace) (hA0 : DataW.TrodAll enc Tryd.prog W 0 (fun _ => true) true Tryd.f17.params.toList args.toList ds ps)
  (hw0 : (DataW.weightsEach Tryd.prog Tryd.f17.params.toList ds).all (· ≤ reachBytes) = true) (hval0 : ∀ (j : Nat) t v, Tryd.f17.params[j]? = some t → args[j]? = some v → Value.okWide Tryd.prog W .any base t v) (hG : Glob W) :
  Calls Tryd.prog 17 args W fun e W' => e = .returned (.bool true) ∧ Below W.heap.size W W' := by
 have hval : ∀ (j : Nat) t v, Tryd.f17.params[j]? = some t → args[j]? = some v → Value.okWide Tryd.prog W .any base t v := @hval0
 have hA : DataW.TrodAll enc Tryd.prog W 0 (fun _ => true) true Tryd.f17.params.toList args.toList ds ps := hA0
 have hw : (DataW.weightsEach Tryd.prog Tryd.f17.params.toList ds).all (· ≤ reachBytes) = true := hw0
 rw [Tryd.params17] at hA hval hw
 clear hA0 hw0 hval0
 obtain ⟨v0, vs0, d0, ds0, p0, q0, hargs, rfl, rfl, h0, r0⟩ := trodAll_cons hA
 obtain ⟨v1, vs1, d1, ds1, p1, q1, rfl, rfl, rfl, h1, r1⟩ := trodAll_cons r0
 obtain ⟨v2, vs2, d2, ds2, p2, q2, rfl, rfl, rfl, h2, r2⟩ := trodAll_cons r1
 obtain ⟨rfl, rfl, rfl⟩ := trodAll_nil r2
 obtain rfl : args = #[v0, v1, v2] := by cases args; simp_all
 simp only [DataW.weightsEach, all_append_iff] at hw
 obtain ⟨hw0, hw1, hw2, _⟩ := hw
 obtain ⟨fuel0, hf0⟩ := h0
 obtain ⟨x0, hK0, wf0_⟩ := opn65 hf0 hw0
 -- STRUCT 0
 obtain ⟨A0_1, c0_1, A0_2, c0_2, A0_3, c0_3, A0_4, c0_4, he0, hl0_1, hC0_1, hl0_2, hC0_2, hl0_3, hC0_3, hl0_4, hC0_4⟩ := k65_open hK0
 obtain rfl : v0 = .agg #[.string x0.f0, .slice A0_1 x0.f1.length c0_1, .slice A0_2 x0.f2.length c0_2, .slice A0_3 x0.f3.length c0_3, .slice A0_4 x0.f4.length c0_4] := agg_of_cells he0 (by simp)
 obtain ⟨a1, len1, cap1, rfl⟩ := arg_slice (j := 1) @hval rfl rfl Tryd.underlying22
 obtain ⟨fuel1, hf1⟩ := h1
 obtain ⟨l1, ⟨A1, c1, he1, hl1, hC1⟩, wf1_⟩ := (Opn.slice Tryd.underlying22 opn50 (by kernel_rfl) (by kernel_rfl)) hf1 hw1
 simp [Value.cells] at he1
 obtain ⟨rfl, rfl, rfl⟩ := he1
 obtain ⟨a2, rfl, rfl, rfl, y2⟩ := arg_string (j := 2) @hval rfl rfl Tryd.underlying9 h2
 have wf2_ : a2.size ≤ 140737488351232 := by
  simp only [DataW.weights, List.all_cons, List.all_nil, Bool.and_true, decide_eq_true_eq, Array.length_toList] at hw2
  unfold reachBytes at hw2
  exact hw2
 obtain ⟨k, h⟩ := RowApplies x0 l1 a2 wf0_ wf1_ wf2_
 refine (vellumlaw04_RowApplies.calls k x0.f0 _ _ x0.f1 _ _ x0.f2 _ _ x0.f3 _ _ x0.f4 _ _ l1 a2 true W hC0_1 hl0_1 hC0_2 hl0_2 hC0_3 hl0_3 hC0_4 hl0_4 hC1 hl1 hG h).mono ?_
 rintro e W' ⟨rfl, hd⟩
 exact ⟨rfl, hd⟩
theorem witness_row (os : Os) {H : Type} (enc : TypeId × Value → H) :
  (OpenSpec.ofChange Rows.rowAppliesSpec).preRow enc Tryd.prog Tryd.f17 [] false laidList ((laidWorld os).forCall (fun _ _ => 0) ⟨#[], #[.agg #[.string ByteArray.empty, .slice none 0 0, .slice none 0 0, .slice none 0 0, .slice none 0 0], .slice none 0 0, .string ByteArray.empty], []⟩).memory #[.agg #[.string ByteArray.empty, .slice none 0 0, .slice none 0 0, .slice none 0 0, .slice none 0 0], .slice none 0 0, .string ByteArray.empty] := by
 have hw : (DataW.whole enc Tryd.prog ((laidWorld os).forCall (fun _ _ => 0) ⟨#[], #[.agg #[.string ByteArray.empty, .slice none 0 0, .slice none 0 0, .slice none 0 0, .slice none 0 0], .slice none 0 0, .string ByteArray.empty], []⟩).memory Tryd.f17.params.toList (OpenSpec.ofChange Rows.rowAppliesSpec).vars false (#[.agg #[.string ByteArray.empty, .slice none 0 0, .slice none 0 0, .slice none 0 0, .slice none 0 0], .slice none 0 0, .string ByteArray.empty] : Array Value).toList 8).map (fun x => (x.1, x.2.1)) = some ([.agg [.lit (.string []), .nil, .nil, .nil, .nil], .nil, .lit (.string [])], []) := by kernel_rfl
 obtain ⟨⟨x1, x2, x3⟩, hx, hx1⟩ := Option.map_eq_some_iff.1 hw
 simp only [Prod.mk.injEq] at hx1
 obtain ⟨rfl, rfl⟩ := hx1
 exact OpenSpec.preRow_of_cond 8 hx (by kernel_rfl) (fun k hk => by cases hk) (by kernel_rfl) (laid_met os _)
theorem ends {os : Os} (started : os.Started) {H : Type} {enc : TypeId × Value → H} {F : Stop.Interp} : ReturnsInHanded { modest := false } Tryd.checked os 17 .any ((OpenSpec.ofChange Rows.rowAppliesSpec).preRow enc Tryd.prog Tryd.f17 [] false laidList) (((OpenSpec.ofChange Rows.rowAppliesSpec).at F).post enc Tryd.prog Tryd.f17 false true false false) :=
 law_lifted (spec := Rows.rowAppliesSpec) Tryd.func17 (by kernel_rfl) (tb := 4) rfl Tryd.underlying4 (by kernel_rfl) rfl
  (fun H ds hl => by
   match ds, hl with
   | [_, _, _], _ => rfl) started
  (witness_row_atRef (enc := enc) (C := Tryd.checked) false (laidWorld os) #[.agg #[.string ByteArray.empty, .slice none 0 0, .slice none 0 0, .slice none 0 0, .slice none 0 0], .slice none 0 0, .string ByteArray.empty] rfl (by kernel_rfl) (by kernel_rfl) (by kernel_rfl) (witness_row os enc))
  (fun W base args ds ps hA hw hval hG => walk W base args ds ps hA hw @hval hG)
theorem inPlace_ : Tryd.prog.inPlace 17 = Rows.rowAppliesRow.inPlace := by kernel_rfl
theorem unfollowed_ : Tryd.prog.unfollowed 17 = Rows.rowAppliesRow.unfollowed := by kernel_rfl
theorem recurses_ : Tryd.prog.recurses 17 = Rows.rowAppliesRow.recurses := by kernel_rfl
theorem named_ : Tryd.prog.varsNamed 17 = Rows.rowAppliesRow.named := by kernel_rfl
theorem closed : joinedFacts Tryd.prog 17 Tryd.f17 (OpenSpec.ofChange Rows.rowAppliesSpec).bare Rows.rowAppliesRow = true := by
 unfold joinedFacts
 rw [laidOut, mapsRowed_, stops_, stopKnobs_, plainKeys_, stopsHeard_, mayEnter_, lifts_, make_, inPlace_, unfollowed_, recurses_, named_]
 kernel_rfl
set_option maxRecDepth 100000 in
theorem over : Rows.rowAppliesRow.holds Tryd.pinned (OpenSpec.ofChange Rows.rowAppliesSpec) :=
 OpenClaim.holds_of_cond 17 Tryd.f17 rfl rfl rfl rfl rfl rfl rfl ⟨rfl, rfl, rfl, rfl, rfl⟩ rfl rfl rfl rfl rfl (by kernel_rfl) Tryd.func17 closed
  (of_decide_eq_true (by kernel_rfl)) (by unfold Func.isWrapper; rw [if_neg (of_decide_eq_false (by kernel_rfl))]; exact ⟨rfl, rfl⟩)
  (fun os started H enc _ F => by
   rw [OpenClaim.pre_eq_preRow]
   exact ends started)
theorem goes_ : false = Rows.rowAppliesRow.goesBy Tryd.prog := by kernel_rfl
theorem fnamed_ : Tryd.prog.funcNamed "vellum/vellumlaw04.RowApplies" = some 17 := by kernel_rfl
theorem card : Rows.RowAppliesCardSaid :=
 Claim7.holds_tied_plain_at .later [] [.data, .pinned] true (true, "409e20a6319c123f59629b35fea50f486835097bfbed967dc062cdc0fc9eff79") false
  over (fun _ h => by cases h) (by kernel_rfl) (fun _ h => by cases h) rowApplies_row_tie rfl ⟨rfl, rfl⟩ main_ rfl
  (fun f fn hf hfn => by
   obtain rfl : f = 17 := Option.some.inj (fnamed_.symm.trans hf) |>.symm
   obtain rfl : fn = Tryd.f17 := (Option.some.inj (Tryd.func17.symm.trans hfn)).symm
   exact ⟨looks_, fun j t ht => by
    rw [Tryd.params17] at ht
    have h3 : t ∈ [65, 22, 9] := by
     have := List.mem_of_getElem? (l := [65, 22, 9]) (i := j) (by simpa using ht)
     exact this
    have h4 : ∀ t ∈ [65, 22, 9], Tryd.prog.wantsStandIn t = false := by
     intro t ht
     simp only [List.mem_cons, List.mem_nil_iff, or_false] at ht
     rcases ht with rfl | rfl | rfl
     all_goals kernel_rfl
    exact h4 t h3⟩)
  goes_
end Go.Proofs.YtpiifdbicibelaaDoor.rowApplies
namespace Go.Proofs.YtpiifdbicibelaaDoor
theorem rowApplies_holds : Rows.RowAppliesCardSaid := rowApplies.card
end Go.Proofs.YtpiifdbicibelaaDoor
end
