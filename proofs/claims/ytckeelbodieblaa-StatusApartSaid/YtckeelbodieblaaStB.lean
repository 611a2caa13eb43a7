/- Status: what a table is in memory; store, swap, decided, find. -/
import Derived.Test.YtckeelbodieblaaStA
import Derived.Maps.OwnSet
import Derived.Maps.OwnOps
import Derived.Maps.Ext
import Derived.WalkSpells
import Derived.Lib.BufferMore
namespace Go.Proofs.Ytckeelbodieblaa.St
open Go Go.RowKit Go.Proofs Go.Maps Go.MuLone
set_option linter.unusedVariables false
set_option linter.unusedSimpArgs false
theorem setCell_heap {w : World} {b i t : Nat} {cs : Array Value} (h : w.heap[b]? = some (.cells cs t)) (v : Value) : (w.setCell ⟨b, i, none⟩ v).heap[b]? = some (.cells (cs.setIfInBounds i v) t) :=
  Go.Lib.heap_setCell_same h v
theorem world_ext {w w' : World} (h : w.heap = w'.heap) (h2 : w.tape = w'.tape) (h3 : w.drawn = w'.drawn) (h4 : w.os = w'.os) (h5 : w.output = w'.output) : w = w' := by
  cases w; cases w'; simp_all
theorem heap_ext {h h' : Array Obj} (hs : h.size = h'.size) (hh : ∀ i : Nat, h[i]? = h'[i]?) : h = h' := by
  refine Array.ext hs (fun i h1 h2 => ?_)
  have := hh i
  rw [Array.getElem?_eq_getElem h1, Array.getElem?_eq_getElem h2] at this
  exact Option.some.inj this
/-- A cell that is written and written back. -/
theorem setCell_back {w : World} {b i t : Nat} {cs : Array Value} (h : w.heap[b]? = some (.cells cs t)) (u v : Value) (hv : cs.setIfInBounds i v = cs) : (w.setCell ⟨b, i, none⟩ u).setCell ⟨b, i, none⟩ v = w := by
  refine world_ext ?_ rfl rfl rfl rfl
  refine heap_ext (by simp [World.setCell]) (fun k => ?_)
  by_cases e : k = b
  · subst e
    rw [setCell_heap (setCell_heap h u) v, h]
    simp [hv]
  · rw [Below.heap_setCell _ _ _ _ e, Below.heap_setCell _ _ _ _ e]
theorem store_ptr (p q : Nat) (u : Option Addr) (s t : Int) (w : World) (hp : w.heap[p]? = some (.cells #[.pointer u] 63)) (hq : w.heap[q]? = some (fateO s t)) :
    Calls Try.prog 18 #[pt p, pt q] w fun e w' => e = .returned (.tuple #[]) ∧ w' = w.setCell ⟨p, 0, none⟩ (pt q) := by
  have hl := run_call_storep (P := Try.prog) Try.func38 (by kernel_rfl) (by kernel_rfl) (by kernel_rfl) (by kernel_rfl) (a := ⟨p, 0, none⟩) (y := some ⟨q, 0, none⟩) (w := w) (u := .pointer u) (cell_of hp 0) (frozen_of hp 0)
  have hu := toUnsafe hq
  unfold pt at hu ⊢
  go_enter Try.func18, Try.ntmps18
  go_wp2
  go_end0
  exact ⟨rfl, rfl⟩
theorem swap_ptr (p q r : Nat) (s t s' t' : Int) (w : World) (hp : w.heap[p]? = some (ptrO q)) (hq : w.heap[q]? = some (fateO s t)) (hr : w.heap[r]? = some (fateO s' t')) :
    Calls Try.prog 56 #[pt p, pt q, pt r] w fun e w' => e = .returned (.bool true) ∧ w' = w.setCell ⟨p, 0, none⟩ (pt r) := by
  have hl := run_call_casp (P := Try.prog) Try.func67 (by kernel_rfl) (by kernel_rfl) (by kernel_rfl) (by kernel_rfl) (a := ⟨p, 0, none⟩) (q := q) (y := some ⟨r, 0, none⟩) (w := w) (cell_of hp 0) (frozen_of hp 0) (by rw [shape_of hq]; rfl)
  have hu := toUnsafe hq
  have hv := toUnsafe hr
  unfold pt at hl hu hv ⊢
  go_enter Try.func56, Try.ntmps56
  go_wp2
  go_ret
  exact ⟨rfl, rfl⟩
def dec (s : Int) : Bool := decide (s = 3) || decide (s = 4)
theorem decided_any (q : Nat) (s t : Int) (w : World) (hq : w.heap[q]? = some (fateO s t)) :
    Calls Try.prog 37 #[pt q] w fun e w' => e = .returned (.bool (dec s)) ∧ w' = w := by
  have h0 : w.cell? ⟨q, 0, none⟩ = some (.int .i64 s) := by rw [cell_of hq]; rfl
  unfold pt
  by_cases h3 : s = 3
  · go_enter Try.func37, Try.ntmps37
    go_wp2
    go_ret
    exact ⟨by simp [dec, h3], rfl⟩
  · by_cases h4 : s = 4
    · go_enter Try.func37, Try.ntmps37
      go_wp2
      go_ret
      exact ⟨by simp [dec, h4], rfl⟩
    · go_enter Try.func37, Try.ntmps37
      go_wp2
      go_ret
      exact ⟨by simp [dec, h3, h4], rfl⟩
/-! ### The map -/
def rp : Value → Option (DataW Unit × List MemPlace)
  | .pointer none => some (.nil, [])
  | .pointer (some ⟨k, 0, none⟩) => some (.lit (.int .i64 k), [])
  | _ => none
theorem rp_nil : rp (.pointer none) = some (.nil, []) := rfl
theorem rp_pt (k : Nat) : rp (pt k) = some (.lit (.int .i64 k), []) := rfl
theorem rp_inv_nil {v : Value} {ps : List MemPlace} (h : rp v = some (.nil, ps)) : v = .pointer none := by
  unfold rp at h
  split at h
  · rfl
  · cases h
  · cases h
theorem rp_inv_pt {v : Value} {k : Nat} {ps : List MemPlace} (h : rp v = some (.lit (.int .i64 k), ps)) : v = pt k := by
  unfold rp at h
  split at h
  · cases h
  · rename_i j
    simp only [Option.some.injEq, Prod.mk.injEq, DataW.lit.injEq, Lit.int.injEq] at h
    have : j = k := by omega
    rw [this]; rfl
  · cases h
theorem kmap : Keyed Try.prog 3 := int_keyed Try.underlying3
theorem kint {n : Int} (h : (Lit.int .i64 n).wf = true) : keyOf Try.prog 3 (.int .i64 n) = some (.int .i64 n) := keyOf_int_mk Try.underlying3 h
/-- A table's block. -/
def tabO (lk last : Int) (m : Nat) : Obj := .cells #[.int .i32 lk, .int .u32 0, .int .i64 last, .map (some m)] 56
theorem own_setCell {w : World} {m nn b i : Nat} {D : DataW Unit} (h : w.ownsMap Try.prog 3 rp m nn D) {cs : Array Value} {t : Nat} (hb : w.heap[b]? = some (.cells cs t)) (u : Value) : (w.setCell ⟨b, i, none⟩ u).ownsMap Try.prog 3 rp m nn D :=
  h.setCell (a := ⟨b, i, none⟩) (fun e => by
    obtain ⟨es, clock, h1, _⟩ := h
    have e' : m = b := e
    subst e'
    rw [hb] at h1
    cases h1) u
theorem find_any (b m nn : Nat) (D : DataW Unit) (last n : Int) (w : World) (hb : w.heap[b]? = some (tabO 0 last m)) (hm : w.ownsMap Try.prog 3 rp m nn D) (hn : (Lit.int .i64 n).wf = true) :
    Calls Try.prog 29 #[pt b, .int .i64 n] w fun e w' => (∃ v ps, e = .returned v ∧ rp v = some (D.atKey (.int .i64 n) .nil, ps)) ∧ w' = w := by
  have hs : ∀ u, (w.setCell ⟨b, 0, none⟩ u).heap[b]? = _ := fun u => setCell_heap hb u
  have c3 : (w.setCell ⟨b, 0, none⟩ (.int .i32 1)).cell? ⟨b, 3, none⟩ = some (.map (some m)) := by rw [cell_of (hs _)]; rfl
  obtain ⟨v, ps, hrun, hv⟩ := (own_setCell hm hb (i := 0) (.int .i32 1)).lookup kmap Try.underlying47 (Try.zeroValue57 _) rp_nil (kint hn)
  unfold pt
  go_enter_defers Try.func29, Try.ntmps29
  go_wp2_with (go_at_call 15; refine (lock_free muLib ⟨b, 0, none⟩ _ (cell_of hb 0) (frozen_of hb 0)).mono ?_; rintro e w' ⟨rfl, rfl⟩)
  refine leaves_cons (f := 16) (args := #[.pointer (some ⟨b, 0, none⟩)]) (by simp) (by simp [go_sem]) ?_
  refine (unlock_deferred muLib ⟨b, 0, none⟩ .returning _ ?_ ?_).mono ?_
  · rw [cell_of (hs _)]; rfl
  · exact frozen_of (hs _) 0
  rintro e u' w'' ⟨rfl, rfl, rfl⟩
  refine ⟨_, results_tmp rfl _ _ _, ⟨v, ps, rfl, hv⟩, setCell_back hb _ _ rfl⟩
end Go.Proofs.Ytckeelbodieblaa.St
