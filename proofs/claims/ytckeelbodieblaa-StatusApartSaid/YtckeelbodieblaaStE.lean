/- Status: Begin, State, Open, New. -/
import Derived.Test.YtckeelbodieblaaStD
import Derived.StillTailTactics
import Derived.Deep.QuietTactic
import Derived.BigQuiet
namespace Go.Proofs.Ytckeelbodieblaa.St
open Go Go.RowKit Go.Proofs Go.Maps Go.MuLone Go.Sort Go.Shelf Go.Proofs.YtckeelbodieblaaW.PrintWords Go.Proofs.YtckeelbodieblaaW.PrintLast Go.Proofs.YtckeelbodieblaaW.PrintMore Go.Proofs.Ytckeelbodieblaa.PB
set_option linter.unusedVariables false
set_option linter.unusedSimpArgs false
theorem find_tab {b m nn : Nat} {pf qf : Int → Nat} {L : List S70} {last n : Int} {w : World} (hT : Tab w 0 b m nn pf qf L last) (hn : (Lit.int .i64 n).wf = true) :
    Calls Try.prog 29 #[pt b, .int .i64 n] w fun e w' => w' = w ∧ ((∃ x ∈ L, x.f0 = n ∧ e = .returned (pt (pf n))) ∨ ((∀ x ∈ L, x.f0 ≠ n) ∧ e = .returned (.pointer none))) := by
  obtain ⟨D, hown, hh, ha⟩ := hT.mp
  refine (find_any b m nn D last n w hT.blk hown hn).mono ?_
  rintro e w' ⟨⟨v, ps, rfl, hv⟩, rfl⟩
  refine ⟨rfl, ?_⟩
  cases hd : L.any (fun x => x.f0 == n) with
  | true =>
    obtain ⟨x, hx, e⟩ := List.any_eq_true.1 hd
    have e' : x.f0 = n := by simpa using e
    have h2 := ha x hx .nil
    rw [e'] at h2
    rw [h2] at hv
    exact .inl ⟨x, hx, e', by rw [rp_inv_pt hv]⟩
  | false =>
    have h2 := hh n
    rw [hd] at h2
    rw [Maps.atKey_of_not_has h2] at hv
    refine .inr ⟨fun x hx e => ?_, by rw [rp_inv_nil hv]⟩
    have := List.any_eq_false.1 hd x hx
    simp [e] at this
theorem find_there {b m nn : Nat} {pf qf : Int → Nat} {L : List S70} {last : Int} {w : World} (hT : Tab w 0 b m nn pf qf L last) {x : S70} (hx : x ∈ L) (hn : (Lit.int .i64 x.f0).wf = true) :
    Calls Try.prog 29 #[pt b, .int .i64 x.f0] w fun e w' => e = .returned (pt (pf x.f0)) ∧ w' = w := by
  refine (find_tab hT hn).mono ?_
  rintro e w' ⟨rfl, ⟨_, _, _, rfl⟩ | ⟨h, _⟩⟩
  · exact ⟨rfl, rfl⟩
  · exact absurd rfl (h x hx)
theorem find_none {b m nn : Nat} {pf qf : Int → Nat} {L : List S70} {last n : Int} {w : World} (hT : Tab w 0 b m nn pf qf L last) (hx : ∀ x ∈ L, x.f0 ≠ n) (hn : (Lit.int .i64 n).wf = true) :
    Calls Try.prog 29 #[pt b, .int .i64 n] w fun e w' => e = .returned (.pointer none) ∧ w' = w := by
  refine (find_tab hT hn).mono ?_
  rintro e w' ⟨rfl, ⟨x, h, e, _⟩ | ⟨_, rfl⟩⟩
  · exact absurd e (hx x h)
  · exact ⟨rfl, rfl⟩
theorem state_there {b m nn : Nat} {pf qf : Int → Nat} {L : List S70} {last : Int} {w : World} (hT : Tab w 0 b m nn pf qf L last) {x : S70} (hx : x ∈ L) (hn : (Lit.int .i64 x.f0).wf = true) :
    Calls Try.prog 10 #[pt b, .int .i64 x.f0] w fun e w' => e = .returned (.tuple #[.int .i64 x.f1, .int .u64 x.f2, .int .i64 0]) ∧ Below w.heap.size w w' := by
  have hf := find_there hT hx hn
  have hl := load_ptr _ _ _ _ w (hT.p x hx) (hT.q x hx)
  have h0 : w.cell? ⟨qf x.f0, 0, none⟩ = some (.int .i64 x.f1) := cell_of (hT.q x hx) 0
  have h1 : w.cell? ⟨qf x.f0, 1, none⟩ = some (.int .u64 x.f2) := cell_of (hT.q x hx) 1
  clear hT hx
  unfold pt at hf hl ⊢
  go_enter Try.func10, Try.ntmps10
  go_wp2_with (first | (go_at_call 29; refine hf.mono ?_; rintro e w' ⟨rfl, rfl⟩) | (go_at_call 30; refine hl.mono ?_; rintro e w' ⟨rfl, rfl⟩))
  go_quiet (fail)
  go_wp2
  go_ret3
  exact ⟨rfl, pw_below_drewN (Below.refl _ _) _⟩
theorem state_none {b m nn : Nat} {pf qf : Int → Nat} {L : List S70} {last n : Int} {w : World} (hT : Tab w 0 b m nn pf qf L last) (hx : ∀ x ∈ L, x.f0 ≠ n) (hn : (Lit.int .i64 n).wf = true) :
    Calls Try.prog 10 #[pt b, .int .i64 n] w fun e w' => e = .returned (.tuple #[.int .i64 0, .int .u64 0, .int .i64 90]) ∧ w' = w := by
  have hf := find_none hT hx hn
  clear hT hx
  unfold pt
  go_enter Try.func10, Try.ntmps10
  go_wp2_with (first | (go_at_call 29; refine hf.mono ?_; rintro e w' ⟨rfl, rfl⟩))
  go_ret3
  exact ⟨rfl, rfl⟩
theorem heap_new (w : World) (o : Obj) : (w.alloc o).heap[w.heap.size]? = some o := by
  show (w.heap.push o)[w.heap.size]? = some o
  simp
theorem heap_old {w : World} {k : Nat} {o o' : Obj} (h : w.heap[k]? = some o) : (w.alloc o').heap[k]? = some o := by
  show (w.heap.push o')[k]? = some o
  rw [Array.getElem?_push, if_neg (fun e => by have := lt_of h; omega)]
  exact h
theorem size_new (w : World) (o : Obj) : (w.alloc o).heap.size = w.heap.size + 1 := Array.size_push o
/-- What a call that holds the table may do. -/
def Turns (w w' : World) (F F' : Nat → Prop) : Prop := Kept w w' F ∧ ∀ k, F' k → F k ∨ w.heap.size ≤ k
theorem Open_any {b m nn : Nat} {pf qf : Int → Nat} {L : List S70} {last : Int} {w : World} (hT : Tab w 0 b m nn pf qf L last) (hl : last * 24 ≤ 140737488355328) :
    Calls Try.prog 14 #[pt b] w fun e w' => ∃ v, e = .returned v ∧ Kd.R (Kd.int .i64) 3 w' w.heap.size (fun _ => True) v (openL L) ∧ Tab w' 0 b m nn pf qf L last ∧ Kept w w' (Foot b m pf L) := by
  have hT1 := hT.setLock 1
  have hz1 : (w.setCell ⟨b, 0, none⟩ (.int .i32 1)).heap.size = w.heap.size := by simp [World.setCell]
  have ho := open_any 1 b m nn pf qf L last _ hT1 hl
  have hb := hT.blk
  have HT := Aside0.mk hT
  have HT1 := Aside0.mk hT1
  clear hT hT1
  rw [hz1] at ho
  unfold pt at ho ⊢
  go_enter_defers Try.func14, Try.ntmps14
  go_wp2_with (first | (go_at_call 15; refine (lock_free muLib ⟨b, 0, none⟩ _ (cell_of hb 0) (frozen_of hb 0)).mono ?_; rintro e w' ⟨rfl, rfl⟩) | (go_at_call 17; refine ho.mono ?_; rintro e w2 ⟨v, rfl, hR, hB⟩; have HR := Aside0.mk hR; have HB := Aside0.mk hB; clear hR hB))
  have hT2 := HT1.out.below (by rw [hz1]; exact HB.out)
  have hb2 := hT2.blk
  refine leaves_cons (f := 16) (args := #[.pointer (some ⟨b, 0, none⟩)]) (by simp) (by simp [go_sem]) ?_
  refine (unlock_deferred muLib ⟨b, 0, none⟩ .returning _ (cell_of hb2 0) (frozen_of hb2 0)).mono ?_
  rintro e u' w'' ⟨rfl, rfl, rfl⟩
  refine ⟨_, results_tmp rfl _ _ _, v, rfl, ?_, hT2.setLock 0, ?_⟩
  · exact Kd.R_mono (Kd.R_far (Kd.R_bound HR.out) (p := ⟨b, 0, none⟩) (fun k hk => by have := lt_of HT.out.blk; have := hk.2.1; show k ≠ b; omega) _) (fun _ _ => trivial)
  · have k1 : Kept w (w.setCell ⟨b, 0, none⟩ (.int .i32 1)) (Foot b m pf L) := (Kept.refl w _).setCell (.inl (.inl rfl)) _
    exact (k1.below (by rw [hz1]; exact HB.out)).setCell (.inl (.inl rfl)) _
theorem New_any (w : World) : Calls Try.prog 6 #[] w fun e w' => ∃ b m, e = .returned (pt b) ∧ Tab w' 0 b m 0 (fun _ => 0) (fun _ => 0) [] 0 ∧ Below w.heap.size w w' ∧ w.heap.size ≤ b ∧ w.heap.size ≤ m := by
  have hmm := @run_makeMap Try.prog
  go_enter Try.func6, Try.ntmps6
  go_wp2
  go_ret
  refine ⟨w.heap.size + 1, w.heap.size, rfl, ?_, (below_alloc (below_alloc (Below.refl _ _) _) _), by omega, by omega⟩
  refine ⟨?_, ⟨.map [], ?_, fun n => rfl, (fun x hx => by cases hx)⟩, (fun x hx => by cases hx), (fun x hx => by cases hx), (fun x hx => by cases hx), List.Pairwise.nil, (fun x hx => by cases hx), Int.le_refl _, Int.le_refl _, (fun x hx => by cases hx)⟩
  · have h2 := heap_new (w.alloc (.map #[] 0)) (tabO 0 0 w.heap.size)
    rw [size_new] at h2
    exact h2
  · exact (World.ownsMap_made w Try.prog 3 rp).alloc _
end Go.Proofs.Ytckeelbodieblaa.St
