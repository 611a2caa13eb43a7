/- Status: the law StatusPlays, its walk. -/
import Derived.Test.YtckeelbodieblaaStZ
namespace Go.Proofs.Ytckeelbodieblaa.PB
open Go Go.RowKit Go.Proofs Go.Maps Go.MuLone Go.Sort Go.Shelf Go.Proofs.YtckeelbodieblaaW.PrintWords Go.Proofs.YtckeelbodieblaaW.PrintLast Go.Proofs.YtckeelbodieblaaW.PrintMore Go.Proofs.Ytckeelbodieblaa.PB
open Go.Proofs.Ytckeelbodieblaa.St hiding Kept Kept.refl Kept.of_below Kept.then_ Kept.of_grown Kept.below Kept.alloc Kept.setCell blk_kept
set_option linter.unusedVariables false
set_option linter.unusedSimpArgs false
def T4_8 : Bool × List (List Nat × List Nat) := (true, [([], []), ([], []), ([], []), ([], []), ([2, 3], [2, 3]), ([4], [4]), ([0, 1, 5], [0, 1, 5]), ([6], [6]), ([7], [7]), ([7], [7]), ([8, 6, 0, 1, 2, 3, 4, 5, 6, 7, 8], [8]), ([9, 10, 0, 1, 2, 3, 4, 5, 6, 7, 8, 9, 10], [9])])
theorem tab4_8 : rtab .any (opsOf Try.f4 8) = T4_8 := by kernel_rfl
theorem fold_last (l : List S37) : ∀ s : List S70 × Int, (l.foldl stepL s).2 ≤ s.2 + l.length := by
  induction l with
  | nil => intro s; simp
  | cons y r ih =>
    intro s
    have h1 := ih (stepL s y)
    have h2 := stepL_last s y
    simp only [List.foldl_cons, List.length_cons]
    omega
theorem rd37 {L : List S37} {i : Nat} {x : S37} (h : L[i]? = some x) : rd_T37 L (i : Int) = x := by
  unfold rd_T37
  simp [List.getD, h]
def wfA (l : List S37) : Bool := l.all fun y => (Lit.int .i64 y.f1).wf
theorem wfA_of {l : List S37} (h : wfA l = true) {y : S37} (hy : y ∈ l) : (Lit.int .i64 y.f1).wf = true := List.all_eq_true.1 h y hy
def vellumlaw09_StatusPlays.f (k : Nat) (l0 : List S37) : Option Bool := if l0.length * 24 ≤ 140737488351232 ∧ wfA l0 = true then some true else none
set_option maxHeartbeats 8000000 in
set_option maxRecDepth 100000 in
theorem vellumlaw09_StatusPlays.calls (k : Nat) (A0 : Option Addr) (c0 : Nat) (l0 : List (S37)) (r : Bool) (w : World) (hr0 : Kd.C k37 w A0 l0.length l0) (hc0 : l0.length ≤ c0) (h : vellumlaw09_StatusPlays.f k l0 = some r) :
    Calls Try.prog 4 #[.slice A0 l0.length c0] w fun e w' => e = .returned (.bool r) ∧ Below w.heap.size w w' := by
  unfold vellumlaw09_StatusPlays.f at h
  by_cases hcond : l0.length * 24 ≤ 140737488351232 ∧ wfA l0 = true
  · rw [if_pos hcond] at h
    obtain rfl := Option.some.inj h
    have HW0 := Aside0.mk hcond.2
    have hlb := hcond.1
    have HC := Aside0.mk hr0
    clear hr0 h hcond
    go_enter Try.func4, Try.ntmps4
    go_wp2_with (first | (go_at_call 6; refine (New_any _).mono ?_; rintro e w1 ⟨b, m, rfl, hT1, hB1, hb, hm⟩; have HPn := Aside0.mk (pair_new w (w1.alloc (.cells #[.slice none 0 0, .int .i64 0] 27)) b m w1.heap.size (hT1.below (below_alloc (Below.refl _ _) _)) (heap_new _ _) hb hm hB1.size (Nat.ne_of_lt (lt_of hT1.blk)) (Nat.ne_of_lt (hT1.lt (.inr (.inl rfl)))) (below_alloc hB1 _)); have hz1 := hB1.size; clear hT1 hB1; unfold pt) | (go_at_call 13; refine (HPn.out.isa (by show ((0 : Int) + 1) * 24 ≤ _; decide)).mono ?_; rintro e w2 ⟨rfl, hP2⟩; have HP2 := Aside0.mk hP2; clear hP2))
    generalize w1.heap.size = gm at *
    go_loopg [5, 6] l0.length (fun gg s5 s6 wr => ∃ (k : Nat) (ok : Bool) (s : List S70 × Int) (nn : Nat) (pf qf : Int → Nat) (A : Option Addr) (c : Nat), s5 = .bool ok ∧ s6 = .int .i64 k ∧ k ≤ l0.length ∧ Aside0 (l0.length - k ≤ gg) ∧ Aside0 (s.2 ≤ k) ∧ Aside0 (Pair w wr b m gm s nn pf qf A c))
    case atStart => exact ⟨0, false, ([], 0), 0, _, _, none, 0, rfl, rfl, Nat.zero_le _, ⟨by omega⟩, ⟨Int.le_refl _⟩, ⟨HP2.out⟩⟩
    case round =>
      obtain ⟨k, ok, s, nn, pf, qf, A, c, rfl, rfl, hk, HM, HL, HP⟩ := hrel
      have m0 : wr.cell? ⟨gm, 0, none⟩ = some (.slice A s.1.length c) := cell_of HP.out.box 0
      have m1 : wr.cell? ⟨gm, 1, none⟩ = some (.int .i64 s.2) := cell_of HP.out.box 1
      have HLB := Aside0.mk (show (s.2 + 1) * 24 ≤ 140737488355328 by have := HL.out; omega)
      by_cases hlt : k < l0.length
      · have hltz : (k : Int) < (l0.length : Int) := by omega
        obtain ⟨y, hy⟩ : ∃ y, l0[k]? = some y := ⟨_, List.getElem?_eq_getElem hlt⟩
        have HWF := Aside0.mk (wfA_of HW0.out (List.mem_of_getElem? hy))
        obtain ⟨ad, ea, a0, a1, a2⟩ := at_T37 HC.out (k : Int) (by omega) hltz
        subst ea
        rw [rd37 hy] at a0 a1 a2
        simp only [Int.toNat_natCast] at a0 a1 a2
        have HA0 := Aside0.mk a0
        have HA1 := Aside0.mk a1
        have HA2 := Aside0.mk a2
        replace a0 := (HP.out.bel.cell (World.block_lt_of_cell? _ _ a0)).trans a0
        replace a1 := (HP.out.bel.cell (World.block_lt_of_cell? _ _ a1)).trans a1
        replace a2 := (HP.out.bel.cell (World.block_lt_of_cell? _ _ a2)).trans a2
        clear hy
        go_wp2
        refine start_ (n := 12) (S := fun w' => w'.cell? ⟨gm, 0, none⟩ = some (.slice A s.1.length c) ∧ w'.cell? ⟨gm, 1, none⟩ = some (.int .i64 s.2) ∧ w'.cell? (ad.add (k * 3)) = some (.int .i64 y.f0) ∧ w'.cell? ⟨(ad.add (k * 3)).block, (ad.add (k * 3)).off + 1, none⟩ = some (.int .i64 y.f1) ∧ w'.cell? ⟨(ad.add (k * 3)).block, (ad.add (k * 3)).off + 2, none⟩ = some (.int .u64 y.f2)) (ds := [10]) #[false, false, false, false, false, false, false, false, false, false, false, false] (by kernel_rfl) rfl rfl ⟨m0, m1, a0, a1, a2⟩ (fun hHeld => ?_); refine with_tab tab4_8 (fun HT_ => ?_)
        have HPd := Aside0.mk (Pair.below HP.out (below_drew1 (Below.refl _ _)))
        generalize wr.drew = W at HPd hHeld ⊢
        refine pure_ (i := 0) (N := some 24) (v := ?_) (a' := ?_) #[true, false, false, false, false, false, false, false, false, false, false, false] rfl rfl (any_of HT_.out (by kernel_rfl)) (fun _ _ _ h => h) (Or.inl ⟨by rfl, ?_⟩) ?_ ?_
        rotate_left
        · intro w'
          go_simp
          with_reducible rfl
        rotate_left
        · simp only [Act.put, List.setIfInBounds_toArray, List.set_cons_zero, List.set_cons_succ, i64_w, i32_w]
          rfl
        refine pure_ (i := 2) (N := some 26) (v := ?_) (a' := ?_) #[true, false, true, false, false, false, false, false, false, false, false, false] rfl rfl (any_of HT_.out (by kernel_rfl)) (fun _ _ _ h => h) (Or.inl ⟨by rfl, ?_⟩) ?_ ?_
        rotate_left
        · intro w'
          go_simp
          with_reducible rfl
        rotate_left
        · simp only [Act.put, List.setIfInBounds_toArray, List.set_cons_zero, List.set_cons_succ, i64_w, i32_w]
          rfl
        refine pure_ (i := 3) (N := some 27) (v := ?_) (a' := ?_) #[true, false, true, true, false, false, false, false, false, false, false, false] rfl rfl (any_of HT_.out (by kernel_rfl)) (fun _ _ _ h => h) (Or.inl ⟨by rfl, ?_⟩) ?_ ?_
        rotate_left
        · intro w'
          go_simp
          with_reducible rfl
        rotate_left
        · simp only [Act.put, List.setIfInBounds_toArray, List.set_cons_zero, List.set_cons_succ, i64_w, i32_w]
          rfl
        refine pure_ (i := 4) (N := some 28) (v := ?_) (a' := ?_) #[true, false, true, true, true, false, false, false, false, false, false, false] rfl rfl (any_of HT_.out (by kernel_rfl)) (fun _ _ _ h => h) (Or.inl ⟨by rfl, ?_⟩) ?_ ?_
        rotate_left
        · intro w'
          go_simp
          with_reducible rfl
        rotate_left
        · simp only [Act.put, List.setIfInBounds_toArray, List.set_cons_zero, List.set_cons_succ, i64_w, i32_w]
          rfl
        refine take_ (i := 1) (N := some 25) (v := ?_) (a' := ?_) #[true, true, true, true, true, false, false, false, false, false, false, false] rfl rfl (take_of HT_.out (by kernel_rfl)) (fun _ _ _ h => h) (Or.inl ⟨by rfl, ?_⟩) hHeld ?_ ?_
        rotate_left
        · rintro w' ⟨s0, s1, s2, s3, s4⟩
          go_simp
          with_reducible rfl
        rotate_left
        · simp only [Act.put, List.setIfInBounds_toArray, List.set_cons_zero, List.set_cons_succ, i64_w, i32_w]
          rfl
        refine take_ (i := 5) (N := some 29) (v := ?_) (a' := ?_) #[true, true, true, true, true, true, false, false, false, false, false, false] rfl rfl (take_of HT_.out (by kernel_rfl)) (fun _ _ _ h => h) (Or.inl ⟨by rfl, ?_⟩) hHeld ?_ ?_
        rotate_left
        · rintro w' ⟨s0, s1, s2, s3, s4⟩
          go_simp
          with_reducible rfl
        rotate_left
        · simp only [Act.put, List.setIfInBounds_toArray, List.set_cons_zero, List.set_cons_succ, i64_w, i32_w]
          rfl
        refine one_ (i := 6) (N := some 30) #[true, true, true, true, true, true, true, false, false, false, false, false] rfl rfl (one_of HT_.out (by kernel_rfl)) (by decide) (fun K hK => ?_)
        refine goes_ Try.func9 (by kernel_rfl) rfl #[pt b, .agg #[.slice A s.1.length c, .int .i64 s.2], .agg #[.int .i64 y.f0, .int .i64 y.f1, .int .u64 y.f2]] (by rfl) rfl rfl (by (try simp only [List.map_toArray, List.map_cons, List.map_nil]); first | done | rfl) ?_
        refine (HPd.out.act y HWF.out HLB.out).mono ?_
        rintro e w6 ⟨nn', pf', qf', A', c', rfl, hg6, hb6, hk6, hP6⟩
        refine ⟨_, rfl, ?_⟩
        have HG6 := Aside0.mk hg6
        have HP6 := Aside0.mk hP6
        have HB6 := Aside0.mk hb6
        have HK6 := Aside0.mk hk6
        clear hg6 hP6 hb6 hk6
        have hc6 := fun (p : Addr) (u : Value) (h : w.cell? p = some u) => (HB6.out.cell (World.block_lt_of_cell? _ _ h)).trans h
        refine hK.out _ _ ⟨cell_of HG6.out 0, cell_of HG6.out 1, hc6 _ _ HA0.out, hc6 _ _ HA1.out, hc6 _ _ HA2.out⟩ (fun hHeld6 => ?_)
        clear hK K
        refine norm_ (a' := ?_) ?_ ?_
        rotate_left
        · show Act.put _ (some 30) _ = _
          simp only [Act.put, List.setIfInBounds_toArray, List.set_cons_zero, List.set_cons_succ, i64_w, i32_w]
          rfl
        refine pure_ (i := 7) (N := some 23) (v := ?_) (a' := ?_) #[true, true, true, true, true, true, true, true, false, false, false, false] rfl rfl (any_of HT_.out (by kernel_rfl)) (fun _ _ _ h => h) (Or.inl ⟨by rfl, ?_⟩) ?_ ?_
        rotate_left
        · intro w'
          go_simp
          with_reducible rfl
        rotate_left
        · simp only [Act.put, List.setIfInBounds_toArray, List.set_cons_zero, List.set_cons_succ, i64_w, i32_w]
          rfl
        refine pure_ (i := 8) (N := some 31) (v := ?_) (a' := ?_) #[true, true, true, true, true, true, true, true, true, false, false, false] rfl rfl (any_of HT_.out (by kernel_rfl)) (fun _ _ _ h => h) (Or.inl ⟨by rfl, ?_⟩) ?_ ?_
        rotate_left
        · intro w'
          go_simp
          with_reducible rfl
        rotate_left
        · simp only [Act.put, List.setIfInBounds_toArray, List.set_cons_zero, List.set_cons_succ, i64_w, i32_w]
          rfl
        refine pure_ (i := 9) (N := some 32) (v := ?_) (a' := ?_) #[true, true, true, true, true, true, true, true, true, true, false, false] rfl rfl (any_of HT_.out (by kernel_rfl)) (fun _ _ _ h => h) (Or.inl ⟨by rfl, ?_⟩) ?_ ?_
        rotate_left
        · intro w'
          go_simp
          with_reducible rfl
        rotate_left
        · simp only [Act.put, List.setIfInBounds_toArray, List.set_cons_zero, List.set_cons_succ, i64_w, i32_w]
          rfl
        refine last_ (i := 10) (N := none) #[true, true, true, true, true, true, true, true, true, true, true, false] rfl rfl (one_of HT_.out (by kernel_rfl)) (by decide) (fun K hK => ?_)
        have q0 : w6.cell? ⟨gm, 0, none⟩ = some (.slice A s.1.length c) := cell_of HG6.out 0
        have q1 : w6.cell? ⟨gm, 1, none⟩ = some (.int .i64 s.2) := cell_of HG6.out 1
        have q2 : w6.frozen? ⟨gm, 0, none⟩ = false := frozen_of HG6.out 0
        have q3 : w6.frozen? ⟨gm, 1, none⟩ = false := frozen_of HG6.out 1
        refine skip_ (w1 := ?_) (by rfl) rfl ?_ ?_
        rotate_left
        · go_simp
          rfl
        refine hK.out _ _ ?_
        generalize hV : (w6.setCell ⟨gm, 0, none⟩ (.slice A' (stepL s y).1.length c')).setCell ⟨gm, 1, none⟩ (.int .i64 (stepL s y).2) = V at HP6 ⊢
        clear hV hK K q0 q1 q2 q3 hHeld hHeld6 m0 m1 a0 a1 a2
        refine pure_ (i := 11) (N := some 5) (v := ?_) (a' := ?_) #[true, true, true, true, true, true, true, true, true, true, true, true] rfl rfl (any_of HT_.out (by kernel_rfl)) (fun _ _ _ h => h) (Or.inl ⟨by rfl, ?_⟩) ?_ ?_
        rotate_left
        · intro w'
          go_simp
          with_reducible rfl
        rotate_left
        · simp only [Act.put, List.setIfInBounds_toArray, List.set_cons_zero, List.set_cons_succ, i64_w, i32_w]
          rfl
        refine done_ (done_of HT_.out (by kernel_rfl)) ?_
        have HL6 := stepL_last s y
        generalize stepL s y = s6 at HP6 HL6 ⊢
        have m0 : V.cell? ⟨gm, 0, none⟩ = some (.slice A' s6.1.length c') := cell_of HP6.out.box 0
        have m1 : V.cell? ⟨gm, 1, none⟩ = some (.int .i64 s6.2) := cell_of HP6.out.box 1
        have HLB6 := Aside0.mk (show (s6.2 + 1) * 24 ≤ 140737488355328 by have := HL.out; omega)
        have HL7 := Aside0.mk (show s6.2 ≤ ((k + 1 : Nat) : Int) by have := HL.out; omega)
        clear HL6
        by_cases h60 : (l0.length : Int) < 60
        · go_wp2_with (first | (go_at_call 13; refine (HP6.out.isa HLB6.out).mono ?_; rintro e w7 ⟨rfl, hP7⟩; have HP7 := Aside0.mk hP7; clear hP7))
          go_roundg (l0.length - (k + 1))
          case measure => have := HM.out; omega
          case rel => exact ⟨k + 1, _, s6, _, _, _, _, _, rfl, by go_num, hlt, ⟨Nat.le_refl _⟩, HL7, HP7⟩
        · go_wp2
          go_roundg (l0.length - (k + 1))
          case measure => have := HM.out; omega
          case rel => exact ⟨k + 1, _, s6, _, _, _, _, _, rfl, by go_num, hlt, ⟨Nat.le_refl _⟩, HL7, HP6⟩
      · obtain rfl : k = l0.length := by omega
        have hltz : ¬ (l0.length : Int) < (l0.length : Int) := by omega
        go_wp2_with (first | (go_at_call 13; refine (HP.out.isa HLB.out).mono ?_; rintro e w7 ⟨rfl, hP7⟩; have HP7 := Aside0.mk hP7; clear hP7) | (go_at_call 12; refine (awake_any _).mono ?_; rintro e w8 ⟨rfl, hB8⟩; have HB8 := Aside0.mk hB8; clear hB8))
        go_ret
        exact ⟨rfl, below_step HP7.out.bel HB8.out⟩
  · rw [if_neg hcond] at h
    cases h
end Go.Proofs.Ytckeelbodieblaa.PB
