/- Status: Prepare, Abort, Commit, Forget by what they come to. -/
import Derived.Test.YtckeelbodieblaaStG
namespace Go.Proofs.Ytckeelbodieblaa.St
open Go Go.RowKit Go.Proofs Go.Maps Go.MuLone Go.Sort Go.Shelf Go.Proofs.YtckeelbodieblaaW.PrintWords Go.Proofs.YtckeelbodieblaaW.PrintLast Go.Proofs.YtckeelbodieblaaW.PrintMore Go.Proofs.Ytckeelbodieblaa.PB
set_option linter.unusedVariables false
set_option linter.unusedSimpArgs false
/-- The place of a number. -/
def at? : List S70 → Int → Option (Nat × S70)
  | [], _ => none
  | x :: r, n => if x.f0 = n then some (0, x) else (at? r n).map fun p => (p.1 + 1, p.2)
theorem at?_some {L : List S70} {n : Int} {p : Nat × S70} (h : at? L n = some p) : L[p.1]? = some p.2 ∧ p.2.f0 = n := by
  induction L generalizing p with
  | nil => cases h
  | cons x r ih =>
    unfold at? at h
    by_cases e : x.f0 = n
    · rw [if_pos e] at h
      cases h
      exact ⟨rfl, e⟩
    · rw [if_neg e] at h
      obtain ⟨q, hq, rfl⟩ := Option.map_eq_some_iff.1 h
      exact ih hq
theorem at?_none {L : List S70} {n : Int} (h : at? L n = none) : ∀ x ∈ L, x.f0 ≠ n := by
  induction L with
  | nil => intro x hx; cases hx
  | cons y r ih =>
    unfold at? at h
    by_cases e : y.f0 = n
    · rw [if_pos e] at h; cases h
    · rw [if_neg e] at h
      intro x hx
      rcases List.mem_cons.1 hx with rfl | hx
      · exact e
      · exact ih (Option.map_eq_none_iff.1 h) x hx
def turnS (L : List S70) (n s t : Int) (me : S70 → Int) : List S70 × Int :=
  match at? L n with
  | none => (L, 90)
  | some (i, x) => if dec x.f1 = true then (L, 91) else if me x ≠ 0 then (L, me x) else (L.set i ⟨n, s, t⟩, 0)
def forgetS (L : List S70) (n : Int) : List S70 × Int :=
  match at? L n with
  | none => (L, 90)
  | some (i, x) => if dec x.f1 = true then (L.eraseIdx i, 0) else (L, 92)
section
variable {b m nn : Nat} {pf qf : Int → Nat} {L : List S70} {last n s t : Int} {w : World}
theorem turn_any (g : Nat) (lb : Array Value) (me : S70 → Int) (hT : Tab w 0 b m nn pf qf L last) (hn : (Lit.int .i64 n).wf = true) (hs1 : 1 ≤ s) (hs4 : s ≤ 4) (eg : ∀ args w, (callFunc g args).run Try.prog w = .ok (.enter g args) w)
    (hmay : ∀ x ∈ L, x.f0 = n → Calls Try.prog g (#[pt (qf x.f0)] ++ lb) (w.alloc (fateO s t)) fun e w' => e = .returned (.int .i64 (me x)) ∧ w' = w.alloc (fateO s t)) :
    Calls Try.prog 40 #[pt b, .int .i64 n, .agg #[.int .i64 s, .int .u64 t], .func (.func g) #[] lb] w fun e w' => ∃ qf', e = .returned (.int .i64 (turnS L n s t me).2) ∧ Tab w' 0 b m nn pf qf' (turnS L n s t me).1 last ∧ Kept w w' (Foot b m pf L) := by
  have hT1 := tab_alloc hT (fateO s t)
  have hk1 : Kept w (w.alloc (fateO s t)) (Foot b m pf L) := (Kept.refl w _).alloc _
  unfold turnS
  cases ha : at? L n with
  | none =>
    refine (turn_none _ hT (at?_none ha) hn).mono ?_
    rintro e w' ⟨rfl, rfl⟩
    exact ⟨qf, rfl, hT1, hk1⟩
  | some p =>
    obtain ⟨i, x⟩ := p
    obtain ⟨hi, hx⟩ := at?_some ha
    have hi' : L[i]? = some x := hi
    have hx' : x.f0 = n := hx
    subst hx'
    have hxm : x ∈ L := List.mem_of_getElem? hi'
    cases hd : dec x.f1 with
    | true =>
      refine (turn_dec _ hT hxm hn hd).mono ?_
      rintro e w' ⟨rfl, rfl⟩
      simp only [hd, if_true]
      exact ⟨qf, by trivial, hT1, hk1⟩
    | false =>
      by_cases hm : me x = 0
      · have hmay' := hmay x hxm rfl
        rw [hm] at hmay'
        refine (turn_ok g lb hT hxm hn hd eg hmay').mono ?_
        rintro e w' ⟨rfl, rfl⟩
        have hsw := hT1.swap (s := s) (t := t) hi' (heap_new w _) hs1 hs4
        refine ⟨_, ?_, by simp only [hd, hm, ne_eq, not_true_eq_false, if_false, Bool.false_eq_true]; exact hsw, hk1.setCell (.inl (.inr (.inr ⟨x, hxm, rfl⟩))) _⟩
        simp [hd, hm]
      · refine (turn_may g lb (me x) hT hxm hn hd hm eg (hmay x hxm rfl)).mono ?_
        rintro e w' ⟨rfl, rfl⟩
        simp only [hd, hm, ne_eq, not_false_eq_true, if_true, if_false, Bool.false_eq_true]
        exact ⟨qf, by trivial, hT1, hk1⟩
theorem Prepare_any (hT : Tab w 0 b m nn pf qf L last) (hn : (Lit.int .i64 n).wf = true) :
    Calls Try.prog 22 #[pt b, .int .i64 n] w fun e w' => ∃ qf', e = .returned (.int .i64 (turnS L n 2 0 (fun _ => 0)).2) ∧ Tab w' 0 b m nn pf qf' (turnS L n 2 0 (fun _ => 0)).1 last ∧ Kept w w' (Foot b m pf L) := by
  have ht := turn_any (s := 2) (t := 0) 41 #[] (fun _ => 0) hT hn (by decide) (by decide) (enters_of Try.func41 (by kernel_rfl) rfl) (fun x hx e => always_any _ _)
  clear hT
  unfold pt at ht ⊢
  go_enter Try.func22, Try.ntmps22
  go_wp2_with (go_at_call 40; refine ht.mono ?_; rintro e w' ⟨qf', rfl, hT', hK⟩)
  go_ret
  exact ⟨qf', rfl, hT', hK⟩
theorem Abort_any (hT : Tab w 0 b m nn pf qf L last) (hn : (Lit.int .i64 n).wf = true) :
    Calls Try.prog 26 #[pt b, .int .i64 n] w fun e w' => ∃ qf', e = .returned (.int .i64 (turnS L n 4 0 (fun _ => 0)).2) ∧ Tab w' 0 b m nn pf qf' (turnS L n 4 0 (fun _ => 0)).1 last ∧ Kept w w' (Foot b m pf L) := by
  have ht := turn_any (s := 4) (t := 0) 41 #[] (fun _ => 0) hT hn (by decide) (by decide) (enters_of Try.func41 (by kernel_rfl) rfl) (fun x hx e => always_any _ _)
  clear hT
  unfold pt at ht ⊢
  go_enter Try.func26, Try.ntmps26
  go_wp2_with (go_at_call 40; refine ht.mono ?_; rintro e w' ⟨qf', rfl, hT', hK⟩)
  go_ret
  exact ⟨qf', rfl, hT', hK⟩
theorem Commit_any (stamp : Int) (hT : Tab w 0 b m nn pf qf L last) (hn : (Lit.int .i64 n).wf = true) :
    Calls Try.prog 24 #[pt b, .int .i64 n, .int .u64 stamp] w fun e w' => ∃ qf', e = .returned (.int .i64 (turnS L n 3 stamp (fun x => mayC x.f1 stamp)).2) ∧ Tab w' 0 b m nn pf qf' (turnS L n 3 stamp (fun x => mayC x.f1 stamp)).1 last ∧ Kept w w' (Foot b m pf L) := by
  have hT1 := tab_alloc hT (.cells #[.int .u64 stamp] 28)
  have hk1 : Kept w (w.alloc (.cells #[.int .u64 stamp] 28)) (Foot b m pf L) := (Kept.refl w _).alloc _
  have hmf : ∀ (fn : Fn) (first cap : Array Value) (w : World), (Instr.makeFunc fn first cap).run Try.prog w = .ok (.func fn first cap) w := fun _ _ _ _ => rfl
  have ht := turn_any (s := 3) (t := stamp) 42 #[pt w.heap.size] (fun x => mayC x.f1 stamp) hT1 hn (by decide) (by decide) (enters_of Try.func42 (by kernel_rfl) rfl)
    (fun x hx e => may_any _ _ _ _ stamp _ (heap_old (hT1.q x hx)) (heap_old (heap_new w _)))
  have HK := Aside0.mk hk1
  clear hT hT1 hk1
  unfold pt at ht ⊢
  go_enter Try.func24, Try.ntmps24
  go_wp2_with (go_at_call 40; refine ht.mono ?_; rintro e w' ⟨qf', rfl, hT', hK⟩)
  go_ret
  exact ⟨qf', rfl, hT', HK.out.then_ hK (fun _ h => .inl h)⟩
theorem Forget_any (hT : Tab w 0 b m nn pf qf L last) (hn : (Lit.int .i64 n).wf = true) :
    Calls Try.prog 28 #[pt b, .int .i64 n] w fun e w' => e = .returned (.int .i64 (forgetS L n).2) ∧ Tab w' 0 b m nn pf qf (forgetS L n).1 last ∧ Kept w w' (Foot b m pf L) := by
  have hT1 := hT.setLock 1
  have hb := hT.blk
  have hb1 : (w.setCell ⟨b, 0, none⟩ (.int .i32 1)).heap[b]? = some (tabO 1 last m) := hT1.blk
  have c3 : (w.setCell ⟨b, 0, none⟩ (.int .i32 1)).cell? ⟨b, 3, none⟩ = some (.map (some m)) := cell_of hb1 3
  have k1 : Kept w (w.setCell ⟨b, 0, none⟩ (.int .i32 1)) (Foot b m pf L) := (Kept.refl w _).setCell (.inl (.inl rfl)) _
  obtain ⟨D, hown, hh, ha⟩ := hT1.mp
  obtain ⟨v, ps, hrun, hv⟩ := hown.look_ok kmap Try.underlying47 (Try.zeroValue57 _) rp_nil (kint hn)
  have hmb : m ≠ b := Ne.symm hT.b_ne_m
  unfold forgetS
  cases hat : at? L n with
  | none =>
    have hnone := at?_none hat
    have hf : Maps.has D (.int .i64 n) = false := by
      rw [hh, List.any_eq_false]
      exact fun x hx => by simpa using hnone x hx
    rw [hf] at hrun
    unfold pt
    clear hT
    go_enter_defers Try.func28, Try.ntmps28
    go_wp2_with (go_at_call 15; refine (lock_free muLib ⟨b, 0, none⟩ _ (cell_of hb 0) (frozen_of hb 0)).mono ?_; rintro e w' ⟨rfl, rfl⟩)
    refine leaves_cons (f := 16) (args := #[.pointer (some ⟨b, 0, none⟩)]) (by simp) (by simp [go_sem]) ?_
    refine (unlock_deferred muLib ⟨b, 0, none⟩ .returning _ (cell_of hb1 0) (frozen_of hb1 0)).mono ?_
    rintro e u' w'' ⟨rfl, rfl, rfl⟩
    exact ⟨_, results_tmp rfl _ _ _, rfl, hT1.setLock 0, k1.setCell (.inl (.inl rfl)) _⟩
  | some p =>
    obtain ⟨i, x⟩ := p
    obtain ⟨hi, hx⟩ := at?_some hat
    have hi' : L[i]? = some x := hi
    have hx' : x.f0 = n := hx
    subst hx'
    have hxm : x ∈ L := List.mem_of_getElem? hi'
    have hf : Maps.has D (.int .i64 x.f0) = true := by
      rw [hh, List.any_eq_true]
      exact ⟨x, hxm, by simp⟩
    rw [hf] at hrun
    rw [ha x hxm] at hv
    rw [rp_inv_pt hv] at hrun
    have hl := load_ptr _ _ _ _ _ (hT1.p x hxm) (hT1.q x hxm)
    have hc := decided_any _ _ _ _ (hT1.q x hxm)
    unfold pt at hrun hl hc ⊢
    clear hT
    cases hd : dec x.f1 with
    | false =>
      rw [hd] at hc
      simp only [hd, if_false, Bool.false_eq_true]
      go_enter_defers Try.func28, Try.ntmps28
      go_wp2_with (first | (go_at_call 15; refine (lock_free muLib ⟨b, 0, none⟩ _ (cell_of hb 0) (frozen_of hb 0)).mono ?_; rintro e w' ⟨rfl, rfl⟩) | (go_at_call 30; refine hl.mono ?_; rintro e w' ⟨rfl, rfl⟩) | (go_at_call 37; refine hc.mono ?_; rintro e w' ⟨rfl, rfl⟩))
      refine leaves_cons (f := 16) (args := #[.pointer (some ⟨b, 0, none⟩)]) (by simp) (by simp [go_sem]) ?_
      refine (unlock_deferred muLib ⟨b, 0, none⟩ .returning _ (cell_of hb1 0) (frozen_of hb1 0)).mono ?_
      rintro e u' w'' ⟨rfl, rfl, rfl⟩
      exact ⟨_, results_tmp rfl _ _ _, rfl, hT1.setLock 0, k1.setCell (.inl (.inl rfl)) _⟩
    | true =>
      rw [hd] at hc
      simp only [hd, if_true]
      go_enter_defers Try.func28, Try.ntmps28
      go_wp2_with (first | (go_at_call 15; refine (lock_free muLib ⟨b, 0, none⟩ _ (cell_of hb 0) (frozen_of hb 0)).mono ?_; rintro e w' ⟨rfl, rfl⟩) | (go_at_call 30; refine hl.mono ?_; rintro e w' ⟨rfl, rfl⟩) | (go_at_call 37; refine hc.mono ?_; rintro e w' ⟨rfl, rfl⟩) | (at_delete; refine wpList_delete_own _ rfl _ _ 47 3 rfl 57 kmap Try.underlying47 rp m nn D rfl hown _ _ rfl (kint hn) ?_; intro w2 hown2 hturn2; have hg2 := hturn2.grown; have hb2 := (hg2.block b (lt_of hb1) (by simpa using hmb.symm)).trans hb1))
      refine leaves_cons (f := 16) (args := #[.pointer (some ⟨b, 0, none⟩)]) (by simp) (by simp [go_sem]) ?_
      refine (unlock_deferred muLib ⟨b, 0, none⟩ .returning _ (cell_of hb2 0) (frozen_of hb2 0)).mono ?_
      rintro e u' w'' ⟨rfl, rfl, rfl⟩
      have hmp := Mp.drop hown hh ha hi' hT1.sorted hown2
      have hTab := hT1.drop hi' hmp (fun k hk hkm => hg2.block k hk (by simpa using hkm))
      refine ⟨_, results_tmp rfl _ _ _, rfl, hTab.setLock 0, ?_⟩
      exact (Kept.of_grown hg2 k1 (fun k hk => by cases hk; exact .inl (.inr (.inl rfl)))).setCell (.inl (.inl rfl)) _
end
end Go.Proofs.Ytckeelbodieblaa.St
