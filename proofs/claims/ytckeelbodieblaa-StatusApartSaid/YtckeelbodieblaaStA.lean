/- The locks and the atomic pointers of this program. -/
import Derived.Test.YtckeelbodieblaaProg
import Derived.Conc.MuLone
import Derived.Conc.MuData
import Derived.KernelRfl
import Derived.WalkKit
import Derived.Laws.LoneSync
import Derived.Below
namespace Go.Proofs.Ytckeelbodieblaa.St
open Go Go.RowKit Go.Proofs
set_option linter.unusedVariables false
set_option linter.unusedSimpArgs false
abbrev muLink : Go.Conc.Locks.MuLink := { lock := 15, unlock := 16, ilock := 33, iunlock := 34, lockSlow := 49, unlockSlow := 52, disable := 45, enable := 47, acquire := 48, relMerge := 50, cas32 := 46, add32 := 51, tMutex := 54, tIMutex := 52, tPMutex := 80, tPIMutex := 93, tPI32 := 95, tUP := 61, tNoCopy := 49, tU32 := 50 }
theorem muLib : Go.Conc.Locks.MuLib Try.prog muLink :=
  ⟨Try.func15, Try.func16, Try.func33, Try.func34, Try.func45, Try.func47, Try.func48, Try.func50, Try.func46, Try.func51, Try.underlying52, Try.runUnderlying52, Try.sizeOf52, Try.isAgg52, Try.zeroValue52, Try.underlying54, Try.runUnderlying54, Try.sizeOf54, Try.isAgg54, Try.zeroValue54, Try.underlying80, Try.runUnderlying80, Try.sizeOf80, Try.isAgg80, Try.zeroValue80, Try.underlying93, Try.runUnderlying93, Try.sizeOf93, Try.isAgg93, Try.zeroValue93, Try.underlying95, Try.runUnderlying95, Try.sizeOf95, Try.isAgg95, Try.zeroValue95, Try.underlying61, Try.runUnderlying61, Try.sizeOf61, Try.isAgg61, Try.zeroValue61, Try.underlying49, Try.runUnderlying49, Try.sizeOf49, Try.isAgg49, Try.zeroValue49, Try.underlying21, Try.runUnderlying21, Try.sizeOf21, Try.isAgg21, Try.zeroValue21, (by kernel_rfl)⟩
/-- A fate's block. -/
def fateO (s t : Int) : Obj := .cells #[.int .i64 s, .int .u64 t] 66
/-- An atomic pointer's block. -/
def ptrO (q : Nat) : Obj := .cells #[.pointer (some ⟨q, 0, none⟩)] 63
def pt (q : Nat) : Value := .pointer (some ⟨q, 0, none⟩)
section
variable {P : Program} {f : FuncId} {fn : Func}
theorem run_call_loadp (hf : P.funcs[f]? = some fn) (hname : (fn.name == "runtime.NumGoroutine") = false) (hb : fn.body.isNone = true) (hn : Extern.findNext fn = none)
    (he : Extern.find fn = some (Extern.Atomic.loadT .ptr)) {a : Addr} {x : Option Addr} {w : World} (hc : w.cell? a = some (.pointer x)) :
    (callFunc f #[.pointer (some a)]).run P w = .ok (.value (.pointer x)) w := by
  rw [run_callFunc_extern hf hname hb hn he]
  change (Sem.run P (do Extern.Atomic.read .ptr (← asAddr (.pointer (some a)))) w).andThen _ = _
  simp [Extern.Atomic.read, asAddr, hc, Result.andThen]
theorem run_call_storep (hf : P.funcs[f]? = some fn) (hname : (fn.name == "runtime.NumGoroutine") = false) (hb : fn.body.isNone = true) (hn : Extern.findNext fn = none)
    (he : Extern.find fn = some Extern.Atomic.storeT) {a : Addr} {y : Option Addr} {u : Value} {w : World} (hc : w.cell? a = some u) (hz : w.frozen? a = false) :
    (callFunc f #[.pointer (some a), .pointer y]).run P w = .ok (.value (.tuple #[])) (w.setCell a (.pointer y)) := by
  rw [run_callFunc_extern hf hname hb hn he]
  change (Sem.run P (do
    store (← asAddr (.pointer (some a))) (.pointer y) .atomic
    pure Extern.Atomic.none_) w).andThen _ = _
  simp [asAddr, hc, hz, run_store P w a (.pointer y) .atomic rfl, Result.andThen, Extern.Atomic.none_]
theorem run_call_casp (hf : P.funcs[f]? = some fn) (hname : (fn.name == "runtime.NumGoroutine") = false) (hb : fn.body.isNone = true) (hn : Extern.findNext fn = none)
    (he : Extern.find fn = some (Extern.Atomic.casT .ptr)) {a : Addr} {q : Nat} {y : Option Addr} {w : World} (hc : w.cell? a = some (pt q)) (hz : w.frozen? a = false) (hq : (w.shape? q).isSome = true) :
    (callFunc f #[.pointer (some a), pt q, .pointer y]).run P w = .ok (.value (.bool true)) (w.setCell a (.pointer y)) := by
  rw [run_callFunc_extern hf hname hb hn he]
  change (Sem.run P (do
    let a' ← asAddr (.pointer (some a))
    if ← Extern.Atomic.touchesFrozen a' then unsupported (.unsafePointer "a write to bytes that a string shares")
    let eq ← match Extern.Atomic.T.ptr, ← Extern.Atomic.read .ptr a', pt q with
      | _, .int _ x, .int _ y => pure (x == y)
      | .ptr, .pointer x, .pointer y => samePointer x y
      | .int _, .pointer (some _), .int _ 0 | .int _, .int _ 0, .pointer (some _) => pure false
      | .int _, .pointer (some _), _ | .int _, _, .pointer (some _) => unsupported .addressObserved
      | _, _, _ => stuck "atomic.CompareAndSwap: old is no T"
    if eq then store a' (.pointer y) .atomic
    pure (Value.bool eq)) w).andThen _ = _
  unfold pt at hc ⊢
  simp [Extern.Atomic.touchesFrozen, Extern.Atomic.read, asAddr, viewAt, World.shape?_isSome_of_cell? hc, hc, hz, samePointer, sameAddr, hq, run_store P w a (.pointer y) .atomic rfl, Result.andThen]
end
theorem cell_of {w : World} {b t : Nat} {cs : Array Value} {z : Nat × Nat} (h : w.heap[b]? = some (.cells cs t z)) (i : Nat) : w.cell? ⟨b, i, none⟩ = cs[i]? := by
  simp [World.cell?, h]
theorem frozen_of {w : World} {b t : Nat} {cs : Array Value} (h : w.heap[b]? = some (.cells cs t)) (i : Nat) : w.frozen? ⟨b, i, none⟩ = false := by
  simp [World.frozen?, h]
theorem shape_of {w : World} {b t : Nat} {cs : Array Value} {z : Nat × Nat} (h : w.heap[b]? = some (.cells cs t z)) : w.shape? b = some (t, cs.size) := by
  simp [World.shape?, h]
theorem lt_of {w : World} {b : Nat} {o : Obj} (h : w.heap[b]? = some o) : b < w.heap.size := (Array.getElem?_eq_some_iff.1 h).1
theorem lies66 : liesAt Try.prog Try.prog.depth 66 (2 / Try.prog.cellsOf 66) 0 66 1 = true := by kernel_rfl
theorem size66 : (Try.prog.info? 66).map (fun i => decide (i.size = 0)) = some false := by kernel_rfl
theorem size63 : (Try.prog.info? 63).map (fun i => decide (i.size = 0)) = some false := by kernel_rfl
theorem toUnsafe {q : Nat} {s t : Int} {w : World} (h : w.heap[q]? = some (fateO s t)) : (convert 58 61 (pt q)).run Try.prog w = .ok (pt q) w :=
  run_convert_to_unsafe Try.underlying58 Try.underlying61 size66 (v := .int .i64 s) (by rw [cell_of h]; rfl)
theorem fromUnsafe {q : Nat} {s t : Int} {w : World} (h : w.heap[q]? = some (fateO s t)) : (convert 61 58 (pt q)).run Try.prog w = .ok (pt q) w := by
  have hsh : w.shape? q = some (66, 2) := shape_of h
  obtain ⟨i, hi, hz0⟩ := Option.map_eq_some_iff.1 size66
  have hz : i.size ≠ 0 := by simpa using hz0
  unfold pt
  simp [convert, Conv.unsafePointer, Conv.seenAt, viewAt, variablesAt, sizeOf, typeInfo, run_underlying Try.underlying58, run_underlying Try.underlying61, hi, hz, hsh, lies66, Result.andThen]
theorem load_ptr (p q : Nat) (s t : Int) (w : World) (hp : w.heap[p]? = some (ptrO q)) (hq : w.heap[q]? = some (fateO s t)) :
    Calls Try.prog 30 #[pt p] w fun e w' => e = .returned (pt q) ∧ w' = w := by
  have hl := run_call_loadp (P := Try.prog) Try.func44 (by kernel_rfl) (by kernel_rfl) (by kernel_rfl) (by kernel_rfl) (a := ⟨p, 0, none⟩) (x := some ⟨q, 0, none⟩) (w := w) (cell_of hp 0)
  have hu := fromUnsafe hq
  unfold pt at hu ⊢
  go_enter Try.func30, Try.ntmps30
  go_wp2
  go_ret
  exact ⟨rfl, rfl⟩
end Go.Proofs.Ytckeelbodieblaa.St
