/- How any argument of a law is opened: its cells as the print's kinds tell them, with what the row's reach says of sizes. -/
import Derived.Test.YtckeelbodieblaaMine
import Derived.ChangeArms
import Derived.ChangeOld
import Derived.Carry
import Derived.SizedLaws
import Derived.ChangeMaps5
import Derived.WideShapes
namespace Go.Proofs.YtckeelbodieblaaW.PrintWords
open Go.RowKit Go.Proofs
set_option linter.unusedVariables false
variable {P : Program}
/-- Every datum of type t that reads is a value of the kind kd, of which Wf is known. -/
def Opn (P : Program) (t : TypeId) {α : Type} (kd : Kd α) (Wf : α → Prop) : Prop :=
  ∀ ⦃H : Type⦄ ⦃enc : TypeId × Value → H⦄ ⦃W : World⦄ ⦃n : Nat⦄ ⦃cs : List Value⦄ ⦃d : DataW H⦄ ⦃ps : List MemPlace⦄,
    DataW.trod enc P W 0 (fun _ => true) true n t cs = some (d, ps) → (d.weights P t).all (· ≤ reachBytes) = true → ∃ x, kd.K W x cs ∧ Wf x
theorem Opn.int {t : TypeId} {k : IntKind} (hu : P.underlying t = some (.int k)) : Opn P t (Kd.int k) (fun x => (Lit.int k x).wf = true) := by
  intro H enc W n cs d ps h _
  obtain ⟨x, rfl, _, hw⟩ := DataW.trod_int hu h
  exact ⟨x, rfl, hw⟩
theorem Opn.bool {t : TypeId} (hu : P.underlying t = some .bool) : Opn P t Kd.bool (fun _ => True) := by
  intro H enc W n cs d ps h _
  obtain ⟨x, rfl, _⟩ := DataW.trod_bool hu h
  exact ⟨x, rfl, trivial⟩
theorem Opn.string {t : TypeId} (hu : P.underlying t = some .string) : Opn P t Kd.string (fun x => x.size ≤ 140737488351232) := by
  intro H enc W n cs d ps h hw
  obtain ⟨x, rfl, hx, _⟩ := DataW.trod_string hu h
  simp only [Prod.mk.injEq] at hx
  obtain ⟨rfl, _⟩ := hx
  refine ⟨x, rfl, ?_⟩
  simp only [DataW.weights, List.all_cons, List.all_nil, Bool.and_true, decide_eq_true_eq, Array.length_toList] at hw
  unfold reachBytes at hw
  exact hw
theorem all_append_iff {l m : List Nat} {p : Nat → Bool} : (l ++ m).all p = true ↔ l.all p = true ∧ m.all p = true := by simp [List.all_append]
theorem weightsAll_get {H : Type} {e : TypeId} : ∀ {l : List (DataW H)} {i : Nat} {d : DataW H} {p : Nat → Bool}, (DataW.weightsAll P e l).all p = true → l[i]? = some d → (d.weights P e).all p = true
  | [], i, d, p, _, h => by simp at h
  | y :: l, 0, d, p, ha, h => by
    simp only [DataW.weightsAll, all_append_iff] at ha
    simp at h; subst h; exact ha.1
  | y :: l, i + 1, d, p, ha, h => by
    simp only [DataW.weightsAll, all_append_iff] at ha
    exact weightsAll_get ha.2 (by simpa using h)
theorem cells_get {W : World} {a : Addr} : ∀ {n : Nat} {c : List Value}, W.cells? 0 a n = some c → c.length = n ∧ ∀ i u, c[i]? = some u → W.cell? (a.add i) = some u := by
  intro n c h
  unfold World.cells? at h
  rw [if_pos (Nat.zero_le _)] at h
  have hl : c.length = n := by simpa using mapM_some_length h
  refine ⟨hl, fun i u hu => ?_⟩
  have hi : i < n := by rw [← hl]; exact (List.getElem?_eq_some_iff.1 hu).1
  have := mapM_some_get h i i (by simp [hi])
  rw [hu] at this
  exact this
theorem Opn.slice {t e : TypeId} {α : Type} {kd : Kd α} {Wf : α → Prop} {B : Nat} (hu : P.underlying t = some (.slice e)) (he : Opn P e kd Wf) (hc : P.cellsOf e = kd.sz) (hB : P.bytesOf e = B) :
    Opn P t (Kd.slice e kd) (fun xs => xs.length * B ≤ 140737488351232 ∧ ∀ x ∈ xs, Wf x) := by
  intro H enc W n cs d ps h hw
  rcases DataW.trod_slice hu h with ⟨rfl, hx⟩ | ⟨a, len, cap, elems, rest, m, _, rfl, hx, _, hl, hm, hlen, hel, _, _⟩
  · exact ⟨[], ⟨none, 0, rfl, by simp, Kd.C_nil _ _⟩, by simp, by simp⟩
  · simp only [Prod.mk.injEq] at hx
    obtain ⟨rfl, _⟩ := hx
    simp only [DataW.weights, hu, List.all_cons, all_append_iff, Bool.and_eq_true] at hw
    obtain ⟨hw0, hw1, _⟩ := hw
    have hone : ∀ i, i < len → ∃ x c, kd.K W x c ∧ Wf x ∧ c.length = kd.sz ∧ ∀ j u, c[j]? = some u → W.cell? (a.add (i * kd.sz + j)) = some u := by
      intro i hi
      have hg := hel i hi
      have hie : i < elems.length := by omega
      rw [List.getElem?_eq_getElem hie] at hg
      obtain ⟨c, hcells, ht⟩ := Option.bind_eq_some_iff.1 hg
      obtain ⟨hcl, hcu⟩ := cells_get hcells
      obtain ⟨x, hK, hwf⟩ := he (d := (elems[i]).1) (ps := (elems[i]).2) ht (weightsAll_get hw1 (i := i) (by simp [List.getElem?_eq_getElem hie]))
      refine ⟨x, c, hK, hwf, by rw [hcl, hc], fun j u hju => ?_⟩
      have := hcu j u hju
      rw [hc, Addr.add_add] at this
      exact this
    have hall : ∀ k, k ≤ len → ∃ xs : List α, xs.length = k ∧ ∀ i x, xs[i]? = some x → ∃ c, kd.K W x c ∧ Wf x ∧ c.length = kd.sz ∧ ∀ j u, c[j]? = some u → W.cell? (a.add (i * kd.sz + j)) = some u := by
      intro k
      induction k with
      | zero => exact fun _ => ⟨[], rfl, fun i x h => by simp at h⟩
      | succ k ih =>
        intro hk
        obtain ⟨xs, hxl, hxs⟩ := ih (by omega)
        obtain ⟨x, c, h1, h2, h3, h4⟩ := hone k (by omega)
        refine ⟨xs ++ [x], by simp [hxl], fun i y hy => ?_⟩
        rcases Nat.lt_or_ge i xs.length with hi | hi
        · rw [List.getElem?_append_left hi] at hy
          exact hxs i y hy
        · rw [List.getElem?_append_right hi] at hy
          have h0 : i - xs.length = 0 := by
            rcases Nat.eq_zero_or_pos (i - xs.length) with h | h
            · exact h
            · rw [List.getElem?_eq_none (by simp; omega)] at hy; cases hy
          rw [h0] at hy
          simp at hy
          subst hy
          have : i = k := by omega
          subst this
          exact ⟨c, h1, h2, h3, h4⟩
    obtain ⟨xs, hxl, hxs⟩ := hall len (Nat.le_refl _)
    refine ⟨xs, ⟨some a, cap, by rw [hxl], by omega, ⟨rfl, by rw [hxl]; unfold maxLen at hm; omega, fun _ => ⟨a, rfl, fun j p hp => ?_⟩⟩⟩, ?_, ?_⟩
    · obtain ⟨c, h1, _, h3, h4⟩ := hxs j p hp
      exact ⟨c, h3, h1, h4⟩
    · have : elems.length ≤ elems.length + rest.length := by omega
      simp only [List.length_map, hB, decide_eq_true_eq] at hw0
      have h2 : xs.length * B ≤ (elems.length + rest.length) * B := Nat.mul_le_mul_right _ (by omega)
      unfold reachBytes at hw0
      omega
    · intro x hx
      obtain ⟨i, hi⟩ := List.getElem?_of_mem hx
      obtain ⟨c, _, h2, _⟩ := hxs i x hi
      exact h2
/-- The fields of a struct from a cell on. -/
def OpnFs (P : Program) (fs : List Field) (off : Nat) {α : Type} (kd : Kd α) (Wf : α → Prop) : Prop :=
  ∀ ⦃H : Type⦄ ⦃enc : TypeId × Value → H⦄ ⦃W : World⦄ ⦃n : Nat⦄ ⦃cs : List Value⦄ (ys : List (DataW H × List MemPlace)), cs.length = off + kd.sz →
    (∀ (i : Nat) (f : Field), fs[i]? = some f → DataW.trod enc P W 0 (fun _ => true) true n f.type ((cs.drop f.offset).take (P.cellsOf f.type)) = ys[i]?) → ys.length = fs.length →
    (DataW.weightsEach P (fs.map (·.type)) (ys.map (·.1))).all (· ≤ reachBytes) = true → ∃ x, kd.K W x (cs.drop off) ∧ Wf x
theorem OpnFs.one {f : Field} {off : Nat} {α : Type} {kd : Kd α} {Wf : α → Prop} (ho : f.offset = off) (hc : P.cellsOf f.type = kd.sz) (h : Opn P f.type kd Wf) : OpnFs P [f] off kd Wf := by
  intro H enc W n cs ys hl hf hy hw
  obtain ⟨y, rfl⟩ : ∃ y, ys = [y] := by
    match ys, hy with
    | [y], _ => exact ⟨y, rfl⟩
  have h0 := hf 0 f rfl
  rw [ho, hc, List.take_of_length_le (by simp; omega)] at h0
  simp only [List.map_cons, List.map_nil, DataW.weightsEach, List.append_nil] at hw
  exact h (d := y.1) (ps := y.2) h0 hw
theorem OpnFs.cons {f : Field} {fs : List Field} {off off' : Nat} {α β : Type} {a : Kd α} {b : Kd β} {Wa : α → Prop} {Wb : β → Prop} (ho : f.offset = off) (hc : P.cellsOf f.type = a.sz) (hoff : off' = off + a.sz) (h : Opn P f.type a Wa) (hr : OpnFs P fs off' b Wb) :
    OpnFs P (f :: fs) off (Kd.pair a b) (fun x => Wa x.1 ∧ Wb x.2) := by
  intro H enc W n cs ys hl hf hy hw
  subst hoff
  match ys, hy with
  | y :: ys, hy =>
    have h0 := hf 0 f rfl
    rw [ho, hc] at h0
    simp only [List.map_cons, DataW.weightsEach, all_append_iff] at hw
    obtain ⟨x, hx, wx⟩ := h (d := y.1) (ps := y.2) h0 hw.1
    have hl' : cs.length = off + a.sz + b.sz := by
      have : (Kd.pair a b).sz = a.sz + b.sz := rfl
      omega
    obtain ⟨z, hz, wz⟩ := hr ys hl' (fun i g hg => by simpa using hf (i + 1) g (by simpa using hg)) (by simpa using hy) hw.2
    exact ⟨(x, z), ⟨_, _, by rw [← List.drop_drop]; exact (List.take_append_drop _ _).symm, hx, hz⟩, wx, wz⟩
theorem Opn.struct {t : TypeId} {fs : Array Field} {α β : Type} {kd : Kd α} {Wf : α → Prop} (f : β → α) (g : α → β) (hfg : ∀ x, f (g x) = x) (hu : P.underlying t = some (.struct fs)) (hc : P.cellsOf t = kd.sz) (h : OpnFs P fs.toList 0 kd Wf) :
    Opn P t (Kd.iso kd f) (fun x => Wf (f x)) := by
  intro H enc W n cs d ps hd hw
  obtain ⟨xs, m, _, hx, hl, hlen, hf⟩ := DataW.trod_struct hu hd
  simp only [Prod.mk.injEq] at hx
  obtain ⟨rfl, _⟩ := hx
  simp only [DataW.weights, hu] at hw
  obtain ⟨x, hK, hwf⟩ := h (cs := cs) xs (by omega) (fun i fi hi => hf i fi (by simpa using hi)) (by simpa using hlen) hw
  exact ⟨g x, by show kd.K W (f (g x)) cs; rw [hfg]; simpa using hK, by show Wf (f (g x)); rw [hfg]; exact hwf⟩
/-- All arguments read as before behind a call that changes nothing that was there. -/
theorem trodAll_below {H : Type} {enc : TypeId × Value → H} (hl : laidOutB P = true) {W W' : World} (hb : Below W.heap.size W W') :
    ∀ {ts : List TypeId} {vs : List Value} {ds : List (DataW H)} {ps : List MemPlace}, (∀ t ∈ ts, P.readableRec t = true ∧ t < P.types.size) → DataW.TrodAll enc P W 0 (fun _ => true) true ts vs ds ps →
      DataW.TrodAll enc P W' 0 (fun b => decide (b < W.heap.size)) true ts vs ds ps
  | [], [], [], ps, _, h => h
  | t :: ts, v :: vs, d :: ds, ps, ht, h => by
    obtain ⟨p, q, h1, h2, rfl⟩ := h
    refine ⟨p, q, Below.trod hl (ht t (by simp)).1 (ht t (by simp)).2 h1 hb (by obtain ⟨m, hm⟩ := h1; exact DataW.trod_lt m _ _ _ hm), trodAll_below hl hb (fun t' h' => ht t' (by simp [h'])) h2, rfl⟩
  | [], _ :: _, _, _, _, h => h.elim
  | [], [], _ :: _, _, _, h => h.elim
  | _ :: _, [], _, _, _, h => h.elim
  | _ :: _, _ :: _, [], _, _, h => h.elim
/-! One argument, by the kind of its type: the program is a variable here, so nothing unfolds it. -/
section args
variable {H : Type} {enc : TypeId × Value → H} {W : World} {base b : Nat} {sp : Nat → Bool} {held : Bool} {ts : Array TypeId} {args : Array Value} {j : Nat} {t : TypeId} {v : Value} {d : DataW H} {ps : List MemPlace}
theorem arg_slice {e : TypeId} (hval : ∀ (j : Nat) t v, ts[j]? = some t → args[j]? = some v → Value.okWide P W .any base t v) (hj : ts[j]? = some t) (ha : args[j]? = some v) (hu : P.underlying t = some (.slice e)) :
    ∃ a len cap, v = .slice a len cap := Go.WideShapes.okWide_slice hu (hval j t v hj ha)
theorem arg_bool (hval : ∀ (j : Nat) t v, ts[j]? = some t → args[j]? = some v → Value.okWide P W .any base t v) (hj : ts[j]? = some t) (ha : args[j]? = some v) (hu : P.underlying t = some .bool)
    (hd : DataW.Trod enc P W b sp held t v d ps) : ∃ c : Bool, v = .bool c ∧ d = .lit (.bool c) ∧ ps = [] := Go.RowKit.open_bool hu (hval j t v hj ha) hd
theorem arg_int {k : IntKind} (hval : ∀ (j : Nat) t v, ts[j]? = some t → args[j]? = some v → Value.okWide P W .any base t v) (hj : ts[j]? = some t) (ha : args[j]? = some v) (hu : P.underlying t = some (.int k))
    (hd : DataW.Trod enc P W b sp held t v d ps) : ∃ n, v = .int k n ∧ d = .lit (.int k n) ∧ ps = [] ∧ (Lit.int k n).wf = true := Go.ChangeShapes.open_int hu (hval j t v hj ha) hd
theorem arg_string (hval : ∀ (j : Nat) t v, ts[j]? = some t → args[j]? = some v → Value.okWide P W .any base t v) (hj : ts[j]? = some t) (ha : args[j]? = some v) (hu : P.underlying t = some .string)
    (hd : DataW.Trod enc P W b sp held t v d ps) : ∃ s : ByteArray, v = .string s ∧ d = .lit (.string s.data.toList) ∧ ps = [] ∧ s.size ≤ maxLen := Go.ChangeMaps.open_string hu (hval j t v hj ha) hd
end args
end Go.Proofs.YtckeelbodieblaaW.PrintWords
