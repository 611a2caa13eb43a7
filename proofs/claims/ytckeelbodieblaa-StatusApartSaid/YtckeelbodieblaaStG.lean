/- Status: turn, Prepare, Abort, Commit. -/
import Derived.Test.YtckeelbodieblaaStF
namespace Go.Proofs.Ytckeelbodieblaa.St
open Go Go.RowKit Go.Proofs Go.Maps Go.MuLone Go.Sort Go.Shelf Go.Proofs.YtckeelbodieblaaW.PrintWords Go.Proofs.YtckeelbodieblaaW.PrintLast Go.Proofs.YtckeelbodieblaaW.PrintMore Go.Proofs.Ytckeelbodieblaa.PB
set_option linter.unusedVariables false
set_option linter.unusedSimpArgs false
section
variable {b m nn : Nat} {pf qf : Int → Nat} {L : List S70} {last n s t : Int} {w : World}
theorem tab_alloc (hT : Tab w 0 b m nn pf qf L last) (o : Obj) : Tab (w.alloc o) 0 b m nn pf qf L last := hT.below (below_alloc (Below.refl _ _) o)
theorem turn_none (fv : Value) (hT : Tab w 0 b m nn pf qf L last) (hx : ∀ x ∈ L, x.f0 ≠ n) (hn : (Lit.int .i64 n).wf = true) :
    Calls Try.prog 40 #[pt b, .int .i64 n, .agg #[.int .i64 s, .int .u64 t], fv] w fun e w' => e = .returned (.int .i64 90) ∧ w' = w.alloc (fateO s t) := by
  have hf := find_none (tab_alloc hT (fateO s t)) hx hn
  clear hT hx
  unfold pt
  unfold fateO at hf ⊢
  go_enter Try.func40, Try.ntmps40
  go_wp2_with (first | (go_at_call 29; refine hf.mono ?_; rintro e w' ⟨rfl, rfl⟩))
  go_ret
  exact ⟨rfl, rfl⟩
theorem turn_dec (fv : Value) (hT : Tab w 0 b m nn pf qf L last) {x : S70} (hx : x ∈ L) (hn : (Lit.int .i64 x.f0).wf = true) (hd : dec x.f1 = true) :
    Calls Try.prog 40 #[pt b, .int .i64 x.f0, .agg #[.int .i64 s, .int .u64 t], fv] w fun e w' => e = .returned (.int .i64 91) ∧ w' = w.alloc (fateO s t) := by
  have hT1 := tab_alloc hT (fateO s t)
  have hf := find_there hT1 hx hn
  have hl := load_ptr _ _ _ _ _ (hT1.p x hx) (hT1.q x hx)
  have hc := decided_any _ _ _ _ (hT1.q x hx)
  rw [hd] at hc
  clear hT hx hT1
  unfold pt fateO at hf hl hc ⊢
  go_enter Try.func40, Try.ntmps40
  go_wp2_with (first | (go_at_call 29; refine hf.mono ?_; rintro e w' ⟨rfl, rfl⟩))
  go_loopg [10, 11] 0 (fun gg s10 s11 wr => wr = w.alloc (.cells #[.int .i64 s, .int .u64 t] 66))
  case atStart => exact rfl
  case round =>
    subst hrel
    go_wp2_with (first | (go_at_call 30; refine hl.mono ?_; rintro e w' ⟨rfl, rfl⟩) | (go_at_call 37; refine hc.mono ?_; rintro e w' ⟨rfl, rfl⟩))
    go_ret
    exact ⟨rfl, rfl⟩
theorem turn_may (g : Nat) (lb : Array Value) (me : Int) (hT : Tab w 0 b m nn pf qf L last) {x : S70} (hx : x ∈ L) (hn : (Lit.int .i64 x.f0).wf = true) (hd : dec x.f1 = false) (hme : me ≠ 0) (eg : ∀ args w, (callFunc g args).run Try.prog w = .ok (.enter g args) w)
    (hmay : Calls Try.prog g (#[pt (qf x.f0)] ++ lb) (w.alloc (fateO s t)) fun e w' => e = .returned (.int .i64 me) ∧ w' = w.alloc (fateO s t)) :
    Calls Try.prog 40 #[pt b, .int .i64 x.f0, .agg #[.int .i64 s, .int .u64 t], .func (.func g) #[] lb] w fun e w' => e = .returned (.int .i64 me) ∧ w' = w.alloc (fateO s t) := by
  have hT1 := tab_alloc hT (fateO s t)
  have hf := find_there hT1 hx hn
  have hl := load_ptr _ _ _ _ _ (hT1.p x hx) (hT1.q x hx)
  have hc := decided_any _ _ _ _ (hT1.q x hx)
  rw [hd] at hc
  clear hT hx hT1
  unfold pt fateO at hf hl hc hmay ⊢
  go_enter Try.func40, Try.ntmps40
  go_wp2_with (first | (go_at_call 29; refine hf.mono ?_; rintro e w' ⟨rfl, rfl⟩))
  go_loopg [10, 11] 0 (fun gg s10 s11 wr => wr = w.alloc (.cells #[.int .i64 s, .int .u64 t] 66))
  case atStart => exact rfl
  case round =>
    subst hrel
    go_wp2_with (first | (go_at_call 30; refine hl.mono ?_; rintro e w' ⟨rfl, rfl⟩) | (go_at_call 37; refine hc.mono ?_; rintro e w' ⟨rfl, rfl⟩) | (go_at_fn g; refine hmay.mono ?_; rintro e w' ⟨rfl, rfl⟩))
    go_ret
    exact ⟨rfl, rfl⟩
theorem turn_ok (g : Nat) (lb : Array Value) (hT : Tab w 0 b m nn pf qf L last) {x : S70} (hx : x ∈ L) (hn : (Lit.int .i64 x.f0).wf = true) (hd : dec x.f1 = false) (eg : ∀ args w, (callFunc g args).run Try.prog w = .ok (.enter g args) w)
    (hmay : Calls Try.prog g (#[pt (qf x.f0)] ++ lb) (w.alloc (fateO s t)) fun e w' => e = .returned (.int .i64 0) ∧ w' = w.alloc (fateO s t)) :
    Calls Try.prog 40 #[pt b, .int .i64 x.f0, .agg #[.int .i64 s, .int .u64 t], .func (.func g) #[] lb] w fun e w' => e = .returned (.int .i64 0) ∧ w' = (w.alloc (fateO s t)).setCell ⟨pf x.f0, 0, none⟩ (pt w.heap.size) := by
  have hT1 := tab_alloc hT (fateO s t)
  have hf := find_there hT1 hx hn
  have hl := load_ptr _ _ _ _ _ (hT1.p x hx) (hT1.q x hx)
  have hc := decided_any _ _ _ _ (hT1.q x hx)
  have hs := swap_ptr _ _ _ _ _ _ _ _ (hT1.p x hx) (hT1.q x hx) (heap_new w (fateO s t))
  rw [hd] at hc
  clear hT hx hT1
  unfold pt fateO at hf hl hc hmay hs ⊢
  go_enter Try.func40, Try.ntmps40
  go_wp2_with (first | (go_at_call 29; refine hf.mono ?_; rintro e w' ⟨rfl, rfl⟩))
  go_loopg [10, 11] 0 (fun gg s10 s11 wr => wr = w.alloc (.cells #[.int .i64 s, .int .u64 t] 66))
  case atStart => exact rfl
  case round =>
    subst hrel
    go_wp2_with (first | (go_at_call 30; refine hl.mono ?_; rintro e w' ⟨rfl, rfl⟩) | (go_at_call 37; refine hc.mono ?_; rintro e w' ⟨rfl, rfl⟩) | (go_at_fn g; refine hmay.mono ?_; rintro e w' ⟨rfl, rfl⟩) | (go_at_call 56; refine hs.mono ?_; rintro e w' ⟨rfl, rfl⟩))
    go_ret
    exact ⟨rfl, rfl⟩
end
theorem always_any (v : Value) (w : World) : Calls Try.prog 41 #[v] w fun e w' => e = .returned (.int .i64 0) ∧ w' = w := by
  go_enter Try.func41, Try.ntmps41
  go_wp2
  go_ret
  exact ⟨rfl, rfl⟩
def mayC (st stamp : Int) : Int := if st ≠ 2 then 92 else if stamp = 0 ∨ stamp > 4611686018427387904 then 1 else 0
theorem may_any (q c : Nat) (st sp stamp : Int) (w : World) (hq : w.heap[q]? = some (fateO st sp)) (hc : w.heap[c]? = some (.cells #[.int .u64 stamp] 28)) :
    Calls Try.prog 42 #[pt q, pt c] w fun e w' => e = .returned (.int .i64 (mayC st stamp)) ∧ w' = w := by
  have h0 : w.cell? ⟨q, 0, none⟩ = some (.int .i64 st) := cell_of hq 0
  have h1 : w.cell? ⟨c, 0, none⟩ = some (.int .u64 stamp) := cell_of hc 0
  unfold pt
  by_cases h2 : st = 2
  · by_cases h3 : stamp = 0
    · go_enter Try.func42, Try.ntmps42
      go_wp2
      go_ret
      exact ⟨by simp [mayC, h2, h3], rfl⟩
    · by_cases h4 : stamp > 4611686018427387904
      · go_enter Try.func42, Try.ntmps42
        go_wp2
        go_ret
        exact ⟨by simp [mayC, h2, h3, h4], rfl⟩
      · go_enter Try.func42, Try.ntmps42
        go_wp2
        go_ret
        exact ⟨by simp [mayC, h2, h3, h4], rfl⟩
  · go_enter Try.func42, Try.ntmps42
    go_wp2
    go_ret
    exact ⟨by simp [mayC, h2], rfl⟩
end Go.Proofs.Ytckeelbodieblaa.St
