/- Part 3 of what the proof of SetsMerges stands on: words for walks, printed functions with their contracts, plain laws. -/
import Derived.Test.YtldlenjfpjihdaaGreatKSetsMerges1
section
namespace Go.Proofs.YtldlenjfpjihdaaGreat.PS
open Go Go.RowKit Go.Proofs Go.Proofs.YtldlenjfpjihdaaGreatW.PrintWords
set_option linter.unusedVariables false
set_option linter.unusedSimpArgs false
instance : DecidableEq S37 := fun a b => if h : eqP a b = true then isTrue ((eqP_iff a b).1 h) else isFalse (fun e => h ((eqP_iff a b).2 e))
def mergeP : List S37 → List S37 → List S37
  | [], [] => []
  | x :: a, [] => x :: mergeP a []
  | [], y :: b => y :: mergeP [] b
  | x :: a, y :: b => if ltP x y then x :: mergeP a (y :: b) else if x = y then y :: mergeP a b else y :: mergeP (x :: a) b
termination_by a b => a.length + b.length
decreasing_by all_goals (simp only [List.length_cons]; omega)
theorem merge_mem (z : S37) : ∀ (n : Nat) (a b : List S37), a.length + b.length = n → (z ∈ mergeP a b ↔ z ∈ a ∨ z ∈ b) := by
  intro n
  induction n using Nat.strongRecOn with
  | _ n ih =>
    intro a b hn
    cases a with
    | nil =>
      cases b with
      | nil => unfold mergeP; simp
      | cons y b => unfold mergeP; rw [List.mem_cons, ih b.length (by rw [← hn]; simp) [] b (by simp)]; simp
    | cons x a =>
      cases b with
      | nil => unfold mergeP; rw [List.mem_cons, ih a.length (by rw [← hn]; simp) a [] (by simp)]; simp
      | cons y b =>
        unfold mergeP
        split
        · rw [List.mem_cons, ih (a.length + (y :: b).length) (by rw [← hn]; simp only [List.length_cons]; omega) a (y :: b) rfl]
          simp only [List.mem_cons]
          exact or_assoc.symm
        · split
          · rename_i e
            subst e
            rw [List.mem_cons, ih (a.length + b.length) (by rw [← hn]; simp only [List.length_cons]; omega) a b rfl]
            simp only [List.mem_cons]
            exact ⟨fun h => h.elim (fun h => .inl (.inl h)) (fun h => h.elim (fun h => .inl (.inr h)) (fun h => .inr (.inr h))), fun h => h.elim (fun h => h.elim .inl (fun h => .inr (.inl h))) (fun h => h.elim .inl (fun h => .inr (.inr h)))⟩
          · rw [List.mem_cons, ih ((x :: a).length + b.length) (by rw [← hn]; simp only [List.length_cons]; omega) (x :: a) b rfl]
            simp only [List.mem_cons]
            exact ⟨fun h => h.elim (fun h => .inr (.inl h)) (fun h => h.elim .inl (fun h => .inr (.inr h))), fun h => h.elim (fun h => .inr (.inl h)) (fun h => h.elim .inl (fun h => .inr (.inr h)))⟩
theorem merge_len : ∀ (n : Nat) (a b : List S37), a.length + b.length = n → (mergeP a b).length ≤ n := by
  intro n
  induction n using Nat.strongRecOn with
  | _ n ih =>
    intro a b hn
    cases a with
    | nil =>
      cases b with
      | nil => unfold mergeP; simp
      | cons y b => unfold mergeP; have := ih b.length (by rw [← hn]; simp) [] b (by simp); simp only [List.length_cons, List.length_nil] at *; omega
    | cons x a =>
      cases b with
      | nil => unfold mergeP; have := ih a.length (by rw [← hn]; simp) a [] (by simp); simp only [List.length_cons, List.length_nil] at *; omega
      | cons y b =>
        unfold mergeP
        split
        · have := ih (a.length + (y :: b).length) (by rw [← hn]; simp only [List.length_cons]; omega) a (y :: b) rfl
          simp only [List.length_cons] at *; omega
        · split
          · have := ih (a.length + b.length) (by rw [← hn]; simp only [List.length_cons]; omega) a b rfl
            simp only [List.length_cons] at *; omega
          · have := ih ((x :: a).length + b.length) (by rw [← hn]; simp only [List.length_cons]; omega) (x :: a) b rfl
            simp only [List.length_cons] at *; omega
theorem merge_sorted : ∀ (n : Nat) (a b : List S37), a.length + b.length = n → a.Pairwise ltP → b.Pairwise ltP → (mergeP a b).Pairwise ltP := by
  intro n
  induction n using Nat.strongRecOn with
  | _ n ih =>
    intro a b hn ha hb
    cases a with
    | nil =>
      cases b with
      | nil => unfold mergeP; exact List.Pairwise.nil
      | cons y b =>
        unfold mergeP
        obtain ⟨h1, h2⟩ := List.pairwise_cons.1 hb
        refine List.pairwise_cons.2 ⟨fun z hz => ?_, ih b.length (by rw [← hn]; simp) [] b (by simp) List.Pairwise.nil h2⟩
        rcases (merge_mem z _ [] b rfl).1 hz with h | h
        · cases h
        · exact h1 z h
    | cons x a =>
      obtain ⟨g1, g2⟩ := List.pairwise_cons.1 ha
      cases b with
      | nil =>
        unfold mergeP
        refine List.pairwise_cons.2 ⟨fun z hz => ?_, ih a.length (by rw [← hn]; simp) a [] (by simp) g2 List.Pairwise.nil⟩
        rcases (merge_mem z _ a [] rfl).1 hz with h | h
        · exact g1 z h
        · cases h
      | cons y b =>
        obtain ⟨h1, h2⟩ := List.pairwise_cons.1 hb
        unfold mergeP
        split
        · rename_i e
          refine List.pairwise_cons.2 ⟨fun z hz => ?_, ih (a.length + (y :: b).length) (by rw [← hn]; simp only [List.length_cons]; omega) a (y :: b) rfl g2 hb⟩
          rcases (merge_mem z _ a (y :: b) rfl).1 hz with h | h
          · exact g1 z h
          · rcases List.mem_cons.1 h with rfl | h
            · exact e
            · exact ltP_trans e (h1 z h)
        · rename_i hlt
          split
          · rename_i e
            subst e
            refine List.pairwise_cons.2 ⟨fun z hz => ?_, ih (a.length + b.length) (by rw [← hn]; simp only [List.length_cons]; omega) a b rfl g2 h2⟩
            exact ((merge_mem z _ a b rfl).1 hz).elim (g1 z) (h1 z)
          · rename_i hne
            have hyx : ltP y x := by
              rcases ltP_tri x y with h | h | h
              · exact absurd h hlt
              · exact absurd h hne
              · exact h
            refine List.pairwise_cons.2 ⟨fun z hz => ?_, ih ((x :: a).length + b.length) (by rw [← hn]; simp only [List.length_cons]; omega) (x :: a) b rfl ha h2⟩
            rcases (merge_mem z _ (x :: a) b rfl).1 hz with h | h
            · rcases List.mem_cons.1 h with rfl | h
              · exact hyx
              · exact ltP_trans hyx (g1 z h)
            · exact h1 z h
def Sorts (l r : List S37) : Prop := r.Pairwise ltP ∧ (∀ z, z ∈ r ↔ z ∈ l) ∧ r.length ≤ l.length
theorem sorts_one {l : List S37} (h : l.length < 2) : Sorts l l := by
  refine ⟨?_, fun z => Iff.rfl, Nat.le_refl _⟩
  match l, h with
  | [], _ => exact List.Pairwise.nil
  | [x], _ => exact List.pairwise_singleton _ _
theorem sorts_merge {l a b : List S37} {n : Nat} (ha : Sorts (l.take n) a) (hb : Sorts (l.drop n) b) : Sorts l (mergeP a b) := by
  refine ⟨merge_sorted _ a b rfl ha.1 hb.1, fun z => ?_, ?_⟩
  · rw [merge_mem z _ a b rfl, ha.2.1, hb.2.1, ← List.mem_append, List.take_append_drop]
  · have h1 := merge_len _ a b rfl
    have h2 := ha.2.2
    have h3 := hb.2.2
    rw [List.length_take] at h2
    rw [List.length_drop] at h3
    omega
end Go.Proofs.YtldlenjfpjihdaaGreat.PS
end
section
namespace Go.Proofs.YtldlenjfpjihdaaGreat.PS
open Go Go.RowKit Go.Proofs Go.Maps Go.WideMaps Go.Proofs.YtldlenjfpjihdaaGreatW.PrintWords
set_option linter.unusedVariables false
set_option linter.unusedSimpArgs false
def pv (x : S37) : Value := .agg #[.int .i64 x.f0, .int .i64 x.f1, .string x.f2]
def wfP (x : S37) : Prop := (Lit.int .i64 x.f0).wf = true ∧ (Lit.int .i64 x.f1).wf = true ∧ x.f2.size ≤ maxLen
def pk (x : S37) : Lit := .string (keyBytes [.int .i64 x.f0, .int .i64 x.f1, .string x.f2.data.toList])
theorem laidOut_ : laidOutB Tryz.prog = true := by kernel_rfl
theorem row37 : (37 : TypeId) < Tryz.prog.types.size := of_decide_eq_true (by kernel_rfl)
theorem wide37 : (match Tryz.prog.underlying 37 with | some (.array _ _) | some (.struct _) => true | _ => false) = true := by rw [Tryz.underlying37]
set_option maxRecDepth 100000 in
theorem law37 : KeyLaw Tryz.prog 37 := deep_law_laid laidOut_ (m := 2) (by omega) row37 (by kernel_rfl) wide37
theorem kmap : Keyed Tryz.prog 37 := Keyed.of_law law37
theorem kt37 : Tryz.prog.keyType 37 = true := by kernel_rfl
theorem size37 : Tryz.prog.cellsOf 37 = 3 := by kernel_rfl
theorem size3 : Tryz.prog.cellsOf 3 = 1 := by kernel_rfl
theorem size9 : Tryz.prog.cellsOf 9 = 1 := by kernel_rfl
set_option maxRecDepth 100000 in
theorem msize : ∃ m, Tryz.prog.types.size = m + 1 := ⟨Tryz.prog.types.size - 1, (Nat.succ_pred_eq_of_pos (Nat.lt_of_le_of_lt (Nat.zero_le _) row37)).symm⟩
theorem kpt {x : S37} (h : wfP x) : keyOf Tryz.prog 37 (pv x) = some (pk x) := by
  have hkt := kt37
  obtain ⟨m, hm⟩ := msize
  obtain ⟨h0, h1, h2⟩ := h
  unfold keyOf pv pk
  simp only [Tryz.underlying37]
  rw [if_pos (by simp [hkt, Value.formed, Tryz.underlying37, size37]), hm]
  unfold Program.keyLits
  simp only [Tryz.underlying37, Value.cells]
  rw [if_pos ⟨by rw [size37]; rfl, by kernel_rfl⟩]
  simp [size3, size9, Program.keyLits, Tryz.underlying3, Tryz.underlying9, h0, h1, h2]
theorem pv_inj {x y : S37} (h : pv x = pv y) : x = y := by
  cases x; cases y
  simpa [pv] using h
theorem pk_inj {x y : S37} (hx : wfP x) (hy : wfP y) (h : pk x = pk y) : x = y := by
  have h1 := kpt hx
  rw [h] at h1
  exact pv_inj (kmap.inj h1 (kpt hy))
def ru : Value → Option (DataW Unit × List MemPlace)
  | .agg ⟨[]⟩ => some (.nil, [])
  | _ => none
theorem ru_inv {v : Value} {x : DataW Unit × List MemPlace} (h : ru v = some x) : v = .agg #[] := by
  unfold ru at h
  split at h
  · rfl
  · cases h
def PM (w : World) (m nn : Nat) (L : List S37) : Prop := ∃ D : DataW Unit, w.ownsMap Tryz.prog 37 ru m nn D ∧ ∀ x, wfP x → Maps.has D (pk x) = L.any (eqP x)
theorem PM.blk {w : World} {m nn : Nat} {L : List S37} (h : PM w m nn L) : ∃ es clock, w.heap[m]? = some (.map es clock) := by
  obtain ⟨D, ⟨es, clock, h1, _⟩, _⟩ := h
  exact ⟨es, clock, h1⟩
theorem PM.same {w w' : World} {m nn : Nat} {L : List S37} (h : PM w m nn L) (hm : w'.heap[m]? = w.heap[m]?) : PM w' m nn L := by
  obtain ⟨D, ⟨es, clock, h1, h2⟩, h3⟩ := h
  exact ⟨D, ⟨es, clock, hm.trans h1, h2⟩, h3⟩
theorem PM.lt {w : World} {m nn : Nat} {L : List S37} (h : PM w m nn L) : m < w.heap.size := by
  obtain ⟨es, clock, h1⟩ := h.blk
  exact (Array.getElem?_eq_some_iff.1 h1).1
theorem PM.below {w w' : World} {m nn : Nat} {L : List S37} (h : PM w m nn L) (hb : Below w.heap.size w w') : PM w' m nn L := h.same (hb.block m h.lt)
theorem PM.new (w : World) : PM (w.alloc (.map #[] 0)) w.heap.size 0 [] :=
  ⟨.map [], World.ownsMap_made w Tryz.prog 37 ru, fun x _ => rfl⟩
theorem PM.look {w : World} {m nn : Nat} {L : List S37} (h : PM w m nn L) {x : S37} (hx : wfP x) :
    (Instr.lookup 59 (.map (some m)) (pv x) true).run Tryz.prog w = .ok (.tuple #[.agg #[], .bool (L.any (eqP x))]) w := by
  obtain ⟨D, ho, hh⟩ := h
  obtain ⟨v, ps, hrun, hv⟩ := ho.look_ok kmap Tryz.underlying59 (Tryz.zeroValue60 _) (zd := .nil) (zp := []) rfl (kpt hx)
  rw [hh x hx, ru_inv hv] at hrun
  exact hrun
theorem PM.put {w : World} {m nn : Nat} {L : List S37} (h : PM w m nn L) (hn : nn < maxLen) {x : S37} (hx : wfP x) :
    ∃ w', (Instr.mapUpdate 59 (.map (some m)) (pv x) (.agg #[])).run Tryz.prog w = .ok () w' ∧ PM w' m (nn + 1) (L ++ [x]) ∧ w.grownBy w' (some m) := by
  obtain ⟨D, ho, hh⟩ := h
  obtain ⟨w', hrun, h1, h2⟩ := ho.update kmap Tryz.underlying59 hn (kpt hx) (d := .nil) (ps := []) (val := .agg #[]) rfl
  refine ⟨w', hrun, ⟨_, h1, fun y hy => ?_⟩, h2⟩
  rw [List.any_append]
  have hD : IsMap D := by obtain ⟨es, clock, _, _, _, rfl⟩ := ho; exact ⟨_, rfl⟩
  by_cases e : y = x
  · subst e
    have e2 : eqP y y = true := (eqP_iff y y).2 rfl
    rw [has_put_same hD (kmap.key (kpt hx))]
    simp [e2]
  · have e2 : eqP y x = false := by rw [← Bool.not_eq_true]; exact fun h => e ((eqP_iff y x).1 h)
    rw [has_put_other (fun h => e (pk_inj hy hx h)), hh y hy]
    simp [e2]
end Go.Proofs.YtldlenjfpjihdaaGreat.PS
end
section
namespace Go.Proofs.YtldlenjfpjihdaaGreat.PS
open Go Go.RowKit Go.Proofs Go.Maps Go.WideMaps
set_option linter.unusedVariables false
theorem keyInt_inv {P : Program} {d : Nat} {t : TypeId} {q : IntKind} (hu : P.underlying t = some (.int q)) {cs : List Value} {ls : List Lit} (h : P.keyLits (d + 1) t cs = some ls) : ∃ n, cs = [.int q n] ∧ (Lit.int q n).wf = true ∧ ls = [.int q n] := by
  unfold Program.keyLits at h
  rw [hu] at h
  match cs, h with
  | [.int q' n], h =>
    simp only at h
    split at h
    · rename_i hc
      obtain ⟨rfl, hw⟩ := hc
      exact ⟨n, rfl, hw, (Option.some.inj h).symm⟩
    · cases h
theorem keyStr_inv {P : Program} {d : Nat} {t : TypeId} (hu : P.underlying t = some .string) {cs : List Value} {ls : List Lit} (h : P.keyLits (d + 1) t cs = some ls) : ∃ s : ByteArray, cs = [.string s] ∧ s.size ≤ maxLen ∧ ls = [.string s.data.toList] := by
  unfold Program.keyLits at h
  rw [hu] at h
  match cs, h with
  | [.string s], h =>
    simp only at h
    split at h
    · rename_i hc
      exact ⟨s, rfl, hc, (Option.some.inj h).symm⟩
    · cases h
theorem keyOf_struct_inv {P : Program} {k : TypeId} {fs : Array Field} (hu : P.underlying k = some (.struct fs)) {v : Value} {kl : Lit} (h : keyOf P k v = some kl) :
    ∃ (cs : Array Value) (ls : List Lit), v = .agg cs ∧ cs.size = P.cellsOf k ∧ (fs.toList.mapM fun f => P.keyLits P.types.size f.type ((cs.toList.drop f.offset).take (P.cellsOf f.type))).map List.flatten = some ls ∧ kl = .string (keyBytes ls) := by
  unfold keyOf at h
  simp only [hu] at h
  split at h
  · rename_i hc
    rw [Bool.and_eq_true] at hc
    obtain ⟨_, hf⟩ := hc
    cases v <;> simp only [Value.formed, hu, Bool.false_eq_true] at hf
    case agg cs =>
      obtain ⟨ls, h1, h2⟩ := Option.map_eq_some_iff.1 h
      unfold Program.keyLits at h1
      simp only [hu] at h1
      split at h1
      · exact ⟨cs, ls, rfl, by simpa using hf, h1, h2.symm⟩
      · cases h1
  · cases h
set_option maxRecDepth 100000 in
theorem PPinv {v : Value} {kl : Lit} (h : keyOf Tryz.prog 37 v = some kl) : ∃ x : S37, v = pv x ∧ wfP x ∧ kl = pk x := by
  obtain ⟨cs, ls, rfl, hsz, h1, rfl⟩ := keyOf_struct_inv Tryz.underlying37 h
  obtain ⟨m, hm⟩ := msize
  rw [size37] at hsz
  obtain ⟨l⟩ := cs
  match l, hsz with
  | [c0, c1, c2], _ =>
    rw [hm] at h1
    simp only [List.mapM_cons, List.mapM_nil, size3, size9, Option.map_eq_map, Option.bind_eq_bind, List.drop_zero, List.take_succ_cons, List.take_zero, List.drop_succ_cons] at h1
    obtain ⟨ls', h2, rfl⟩ := Option.map_eq_some_iff.1 h1
    obtain ⟨a0, e0, h3⟩ := Option.bind_eq_some_iff.1 h2
    obtain ⟨rest, h4, p1⟩ := Option.bind_eq_some_iff.1 h3
    obtain ⟨a1, e1, h5⟩ := Option.bind_eq_some_iff.1 h4
    obtain ⟨rest2, h6, p2⟩ := Option.bind_eq_some_iff.1 h5
    obtain ⟨a2, e2, h7⟩ := Option.bind_eq_some_iff.1 h6
    clear h h1 h2 h3 h4 h5 h6
    obtain ⟨n0, g0, w0, rfl⟩ := keyInt_inv Tryz.underlying3 e0
    obtain ⟨n1, g1, w1, rfl⟩ := keyInt_inv Tryz.underlying3 e1
    obtain ⟨s2, g2, w2, rfl⟩ := keyStr_inv Tryz.underlying9 e2
    simp at g0 g1 g2 p1 p2 h7
    subst g0 g1 g2 h7 p2 p1
    exact ⟨⟨n0, n1, s2⟩, rfl, ⟨w0, w1, w2⟩, rfl⟩
end Go.Proofs.YtldlenjfpjihdaaGreat.PS
end
section
namespace Go.Proofs.YtldlenjfpjihdaaGreat.PS
open Go Go.RowKit Go.Proofs Go.Sort Go.Shelf Go.Proofs.YtldlenjfpjihdaaGreatW.PrintWords
set_option linter.unusedVariables false
set_option linter.unusedSimpArgs false
def Gr (w w' : World) : Prop := ∃ q os, w' = grow (w.drewN q) os
theorem Gr.refl (w : World) : Gr w w := ⟨0, #[], by rw [grow_empty]; rfl⟩
theorem Gr.drawn {w w' w2 : World} (h : Gr w w') (hd : Drawn0 w' w2) : Gr w w2 := by
  obtain ⟨q, os, rfl⟩ := h
  obtain ⟨n, rfl⟩ := hd.out
  exact ⟨q + n, os, by simp [grow, World.drewN, Nat.add_assoc]⟩
theorem Gr.drew {w w' : World} (h : Gr w w') : Gr w w'.drew := h.drawn ⟨⟨1, rfl⟩⟩
theorem Gr.alloc {w w' : World} (h : Gr w w') (o : Obj) : Gr w (w'.alloc o) := by
  obtain ⟨q, os, rfl⟩ := h
  exact ⟨q, os ++ #[o], by rw [alloc_eq_grow, grow_grow]⟩
theorem Gr.below {w w' : World} (h : Gr w w') : Below w.heap.size w w' := by
  obtain ⟨q, os, rfl⟩ := h
  refine ⟨rfl, rfl, rfl, by simp [grow, World.drewN], fun k hk => ?_⟩
  show (w.heap ++ os)[k]? = w.heap[k]?
  rw [Array.getElem?_append_left hk]
section
variable {α : Type} {enc : α → List Value} {C : Nat}
def RowG (enc : α → List Value) (C : Nat) (w : World) (g : Nat) (xs : List α) : Prop := ∀ (i : Nat) (x : α), xs[i]? = some x → ∀ (j : Nat) (u : Value), (enc x)[j]? = some u → w.cell? ⟨g, i * C + j, none⟩ = some u ∧ w.frozen? ⟨g, i * C + j, none⟩ = false
theorem RowG.same {w w' : World} {g : Nat} {xs : List α} (h : RowG enc C w g xs) (e : w'.heap[g]? = w.heap[g]?) : RowG enc C w' g xs := by
  intro i x hx j u hu
  have := h i x hx j u hu
  exact ⟨by simpa [World.cell?, e] using this.1, by simpa [World.frozen?, e] using this.2⟩
theorem flatMap_get (hk : ∀ x, (enc x).length = C) : ∀ {xs : List α} {i : Nat} {x : α}, xs[i]? = some x → ∀ {j : Nat} {u : Value}, (enc x)[j]? = some u → (xs.flatMap enc)[i * C + j]? = some u
  | [], i, x, h, _, _, _ => by simp at h
  | y :: r, 0, x, h, j, u, hu => by
    obtain rfl : y = x := by simpa using h
    have hj := (List.getElem?_eq_some_iff.1 hu).1
    rw [List.flatMap_cons, Nat.zero_mul, Nat.zero_add, List.getElem?_append_left hj]
    exact hu
  | y :: r, i + 1, x, h, j, u, hu => by
    have h' : r[i]? = some x := by simpa using h
    have e : (i + 1) * C + j - (enc y).length = i * C + j := by rw [hk y, Nat.succ_mul]; omega
    rw [List.flatMap_cons, List.getElem?_append_right (by rw [hk y, Nat.succ_mul]; omega), e]
    exact flatMap_get hk h' hu
def OwnG (enc : α → List Value) (C K : Nat) (w : World) (base : Nat) (v : Value) (xs : List α) : Prop :=
  (v = .slice none 0 0 ∧ xs = []) ∨ ∃ g cap cur, v = .slice (some ⟨g, 0, none⟩) xs.length cap ∧ base ≤ g ∧ w.heap[g]? = some (.cells cur K (0, 0)) ∧ xs.length ≤ cap ∧ cap ≤ maxLen ∧ cur.size = cap * C ∧ RowG enc C w g xs
theorem OwnG.of_own (hk : ∀ x, (enc x).length = C) {K base : Nat} {w : World} {v : Value} {xs : List α} (h : w.ownsRow base K C v xs.length (xs.flatMap enc)) : OwnG enc C K w base v xs := by
  rcases h.2 with ⟨rfl, h0⟩ | ⟨g, cap, cur, rfl, hg, hh, hnc, hcm, hsz, htk⟩
  · exact .inl ⟨rfl, List.eq_nil_of_length_eq_zero h0⟩
  · refine .inr ⟨g, cap, cur, rfl, hg, hh, hnc, hcm, hsz, ?_⟩
    intro i x hx j u hu
    have hi := (List.getElem?_eq_some_iff.1 hx).1
    have e := flatMap_get hk hx hu
    have hlt := (List.getElem?_eq_some_iff.1 e).1
    rw [← htk, List.getElem?_take] at e
    split at e
    · have e2 : cur[i * C + j]? = some u := by rw [← Array.getElem?_toList]; exact e
      exact ⟨by simp [World.cell?, hh, e2], by simp [World.frozen?, hh]⟩
    · cases e
theorem RowG.holds [Inhabited α] (hk : ∀ x, (enc x).length = C) (hC : 0 < C) {w : World} {g : Nat} {xs : List α} (h : RowG enc C w g xs) : HoldsK enc C w g 0 xs.toArray := by
  intro j hj
  rw [size_flatK] at hj
  have hj' : j < xs.length * C := by simpa using hj
  rw [get_flatK _ _ _ _ hj]
  have hi : j / C < xs.length := by rw [Nat.div_lt_iff_lt_mul hC]; exact hj'
  have e1 : xs.toArray[j / C]! = xs[j / C] := by simp [hi]
  have h3 : j % C < (enc xs[j / C]).length := by rw [hk]; exact Nat.mod_lt _ hC
  have := h (j / C) _ (List.getElem?_eq_getElem hi) (j % C) _ (List.getElem?_eq_getElem h3)
  have hdm : j / C * C + j % C = 0 + j := by rw [Nat.zero_add, Nat.mul_comm]; exact Nat.div_add_mod j C
  rw [hdm] at this
  rw [e1, getElem!_pos (enc xs[j / C]) (j % C) h3]
  exact this
theorem RowG.of_holds [Inhabited α] (hk : ∀ x, (enc x).length = C) {w : World} {g : Nat} {d : Array α} (h : HoldsK enc C w g 0 d) : RowG enc C w g d.toList := by
  intro i x hx j u hu
  have hj : j < C := by have := (List.getElem?_eq_some_iff.1 hu).1; rwa [hk] at this
  have hi : i < d.size := by have := (List.getElem?_eq_some_iff.1 hx).1; simpa using this
  have := h.cell hi hj
  rw [Nat.zero_add] at this
  have e1 : d[i]! = x := by
    rw [getElem!_pos d i hi]
    have := (List.getElem?_eq_some_iff.1 hx).2
    simpa using this
  have h3 : j < (enc x).length := by rw [hk]; exact hj
  have e2 : (enc x)[j]! = u := by
    rw [getElem!_pos (enc x) j h3]
    exact (List.getElem?_eq_some_iff.1 hu).2
  rw [e1, e2] at this
  exact this
theorem sortG_below [Inhabited α] {w : World} {g B : Nat} (hg : B ≤ g) (hgw : g < w.heap.size) (m : Nat) (d : Array α) (os : Array Obj) : Below B w (sortWorldK enc C w g 0 m d os) := by
  refine ⟨rfl, rfl, rfl, size_sortWorldK_c enc C w g 0 m d os, fun k hk => ?_⟩
  show ((w.heap.modify g _) ++ os)[k]? = w.heap[k]?
  rw [Array.getElem?_append_left (by simp; omega), Array.getElem?_modify, if_neg (by omega)]
theorem sortG_block [Inhabited α] {w : World} {g K : Nat} {cur : Array Value} (hh : w.heap[g]? = some (.cells cur K (0, 0))) (m : Nat) (d : Array α) (os : Array Obj) : ∃ cur', (sortWorldK enc C w g 0 m d os).heap[g]? = some (.cells cur' K (0, 0)) ∧ cur'.size = cur.size := by
  have hlt := (Array.getElem?_eq_some_iff.1 hh).1
  have e0 : (sortWorldK enc C w g 0 m d os).heap[g]? = some (Obj.cells (putCells id 0 (flatK enc C d) cur) K (0, 0)) := by
    show ((w.heap.modify g _) ++ os)[g]? = _
    rw [Array.getElem?_append_left (by simpa using hlt), Array.getElem?_modify, if_pos rfl, hh]
    rfl
  exact ⟨_, e0, by simp [putCells]⟩
theorem sortG {P : Program} {ρ : Ren} (L : SlLaysF0.n6 P ρ) [Inhabited α] (hk : ∀ x, (enc x).length = C) (hC : 0 < C) (aE : ∀ w, (isAgg (ρ.t 24)).run P w = .ok true w) (zE : ∀ w, (Go.sizeOf (ρ.t 24)).run P w = .ok C w)
    (h1 : ∀ x, ∀ v ∈ enc x, v.oneCell' = true) (cf : α → α → Int) (hO : SWO (ltOf cf)) (gc : Nat) (eg : ∀ args w, (callFunc gc args).run P w = .ok (.enter gc args) w)
    (hcmp : ∀ (W : World) (x y : α), Calls P gc #[.agg (enc x).toArray, .agg (enc y).toArray] W fun e w' => e = .returned (.int .i64 (cf x y)) ∧ Gr W w')
    {K base : Nat} {v : Value} {xs : List α} {w : World} (h : OwnG enc C K w base v xs) (hl : xs.length < 4611686018427387904) :
    Calls P (ρ.f 6) #[v, .func (.func gc) #[] #[]] w fun e w' => e = .returned (.tuple #[]) ∧ ∃ ys, ys.Perm xs ∧ ys.Pairwise (fun a b => ltOf cf b a = false) ∧ OwnG enc C K w' base v ys ∧ Below base w w' := by
  rcases h with ⟨rfl, rfl⟩ | ⟨g, cap, cur, rfl, hg, hh, hnc, hcm, hsz, hR⟩
  · exact (AnyF.slices_SortFunc_none L none 0 _ w).mono fun e w' h => ⟨h.1, [], List.Perm.refl _, List.Pairwise.nil, .inl ⟨rfl, rfl⟩, by rw [h.2]; exact Below.refl _ _⟩
  · have hgw := (Array.getElem?_eq_some_iff.1 hh).1
    have hH := hR.holds hk hC
    have h := AnyQ.slices_SortFunc L C aE zE enc hk h1 cf hO gc #[] g 0 cap xs.toArray w eg (fun m os dk hs x y => hcmp _ x y) hH hgw (by simpa using hl)
    have e0 : xs.toArray.size = xs.length := by simp
    rw [e0] at h
    refine h.mono ?_
    rintro e w' ⟨rfl, d', n, os, hperm, hsort, rfl⟩
    have hs2 : d'.size = xs.length := by have := hperm.1; simpa using this
    have hp : d'.toList.Perm xs := by
      have := hperm.2.2
      have e3 : d'.extract 0 xs.length = d' := by rw [← hs2]; simp
      have e4 : xs.toArray.extract 0 xs.length = xs.toArray := by rw [← e0]; simp
      rw [e3, e4] at this
      simpa using this
    obtain ⟨cur', hh', hsz'⟩ := sortG_block (enc := enc) (C := C) hh n d' os
    refine ⟨rfl, d'.toList, hp, ?_, .inr ⟨g, cap, cur', by rw [hp.length_eq], hg, hh', by rw [hp.length_eq]; exact hnc, hcm, by rw [hsz', hsz], RowG.of_holds hk (holdsK_sortWorldK_c enc C w g 0 _ d' n os hH hgw (by rw [hs2, e0]))⟩, sortG_below hg hgw n d' os⟩
    rw [List.pairwise_iff_getElem]
    intro i j hi hj hij
    have hi' : i < d'.size := by simpa using hi
    have hj' : j < d'.size := by simpa using hj
    have := hsort i j (Nat.zero_le _) hij (by rw [← hs2]; exact hj')
    rw [getElem!_pos d' i hi', getElem!_pos d' j hj'] at this
    simpa using this
end
end Go.Proofs.YtldlenjfpjihdaaGreat.PS
end
section
namespace Go.Proofs.YtldlenjfpjihdaaGreat.PS
open Go Go.RowKit Go.Proofs Go.Maps Go.Proofs.YtldlenjfpjihdaaGreatW.PrintWords Go.Proofs.YtldlenjfpjihdaaGreatW.PrintLast Go.Proofs.YtldlenjfpjihdaaGreatW.PrintMore
set_option linter.unusedVariables false
set_option linter.unusedSimpArgs false
theorem cell_of {w : World} {b t : Nat} {cs : Array Value} {z : Nat × Nat} (h : w.heap[b]? = some (.cells cs t z)) (i : Nat) : w.cell? ⟨b, i, none⟩ = cs[i]? := by
  simp [World.cell?, h]
theorem frozen_of {w : World} {b t : Nat} {cs : Array Value} (h : w.heap[b]? = some (.cells cs t)) (i : Nat) : w.frozen? ⟨b, i, none⟩ = false := by
  simp [World.frozen?, h]
theorem lt_of {w : World} {b : Nat} {o : Obj} (h : w.heap[b]? = some o) : b < w.heap.size := (Array.getElem?_eq_some_iff.1 h).1
theorem heap_new (w : World) (o : Obj) : (w.alloc o).heap[w.heap.size]? = some o := by
  show (w.heap.push o)[w.heap.size]? = some o
  simp
theorem heap_old {w : World} {k : Nat} {o o' : Obj} (h : w.heap[k]? = some o) : (w.alloc o').heap[k]? = some o := by
  show (w.heap.push o')[k]? = some o
  rw [Array.getElem?_push, if_neg (fun e => by have := lt_of h; omega)]
  exact h
theorem size_new (w : World) (o : Obj) : (w.alloc o).heap.size = w.heap.size + 1 := Array.size_push o
theorem setCell_heap {w : World} {b i t : Nat} {cs : Array Value} (h : w.heap[b]? = some (.cells cs t)) (v : Value) : (w.setCell ⟨b, i, none⟩ v).heap[b]? = some (.cells (cs.setIfInBounds i v) t) :=
  Go.Lib.heap_setCell_same h v
theorem below_step {w0 W W' : World} (hb : Below w0.heap.size w0 W) (hB : Below W.heap.size W W') : Below w0.heap.size w0 W' := Below.trans hb (hB.mono hb.size)
theorem results_ct {P : Program} {fn : Func} {p q : Tmp} {ty : TypeId} (h : fn.results = #[.cell p ty, .tmp q]) (tmps : Array Value) (w : World) (g : Nat) (t : TypeId) (cs : Array Value) (fr : Nat × Nat) (d : TypeDesc)
    (hp : tmps.getD p undef = .pointer (some ⟨g, 0, none⟩)) (hg : w.heap[g]? = some (.cells cs t fr))
    (hu : P.underlying ty = some d) (hd : (match d with | .struct _ | .array _ _ => true | _ => false) = true) (hi : (P.info? ty).map (·.size) = some cs.size) :
    (results fn tmps).run P w = .ok (.tuple #[.agg cs, tmps.getD q undef]) w := by
  have hp' : tmps[p]?.getD undef = .pointer (some ⟨g, 0, none⟩) := by simpa using hp
  simp [results, h, hp', asAddr, run_loadVar_row w g t ty cs fr d hg hu hd hi]
def pO (x : S37) : Obj := .cells #[.int .i64 x.f0, .int .i64 x.f1, .string x.f2] 37
def zP : S37 := ⟨0, 0, ⟨#[]⟩⟩
theorem before_any (a b : S37) (w : World) : Calls Tryz.prog 64 #[pv a, pv b] w fun e w' => e = .returned (.int .i64 (cmpP a b)) ∧ Below w.heap.size w w' := by
  obtain ⟨k, hk⟩ := (before_ev a b).ex
  exact sets_before.calls k _ _ _ _ _ _ _ w hk
def fstep (p : S37 → Bool) (acc : Option S37) (x : S37) : Option S37 := if p x = true then lstep acc x else acc
theorem fstep_take {p : S37 → Bool} {xs : List S37} {k : Nat} {y : S37} (hy : xs[k]? = some y) : (xs.take (k + 1)).foldl (fstep p) none = fstep p ((xs.take k).foldl (fstep p) none) y := by
  rw [take_snoc hy, List.foldl_append]; rfl
set_option maxHeartbeats 8000000 in
set_option maxRecDepth 100000 in
theorem least_any (p : S37 → Bool) (g : Nat) (lb : Array Value) (eg : ∀ args w, (callFunc g args).run Tryz.prog w = .ok (.enter g args) w) (A : Option Addr) (xs : List S37) (c : Nat) (w : World) (hC : Kd.C k37 w A xs.length xs)
    (hp : ∀ (W : World) (x : S37), x ∈ xs → Below w.heap.size w W → Calls Tryz.prog g (#[pv x] ++ lb) W fun e w' => e = .returned (.bool (p x)) ∧ Below W.heap.size W w') :
    Calls Tryz.prog 37 #[.slice A xs.length c, .func (.func g) #[] lb] w fun e w' => e = .returned (.tuple #[pv ((leastS (xs.filter p)).getD zP), .bool (leastS (xs.filter p)).isSome]) ∧ Below w.heap.size w w' := by
  have HC := Aside0.mk hC
  have hmax : xs.length ≤ 9223372036854775807 := hC.2.1
  have hfold : xs.foldl (fstep p) none = leastS (xs.filter p) := foldl_filter p xs none
  have HFo := Aside0.mk hfold
  have HPp := Aside0.mk hp
  clear hC hfold hp
  go_enter Tryz.func37, Tryz.ntmps37
  go_wp2
  go_loopg [7, 12] xs.length (fun gg s7 s12 wr => ∃ (k : Nat) (acc : Option S37), s7 = .bool acc.isSome ∧ s12 = .int .i64 k ∧ k ≤ xs.length ∧ Aside0 (xs.length - k ≤ gg) ∧ Aside0 (acc = (xs.take k).foldl (fstep p) none) ∧ Aside0 (wr.heap[w.heap.size + 1]? = some (pO (acc.getD zP))) ∧ Aside0 (wr.heap[w.heap.size]? = some (pO zP)) ∧ Aside0 (Below w.heap.size w wr))
  case atStart => exact ⟨0, none, rfl, rfl, Nat.zero_le _, ⟨by omega⟩, ⟨rfl⟩, ⟨by have := heap_new (w.alloc (pO zP)) (pO zP); rw [size_new] at this; exact this⟩, ⟨heap_old (heap_new w (pO zP))⟩, ⟨below_alloc (below_alloc (Below.refl _ _) _) _⟩⟩
  case round =>
    obtain ⟨k, acc, rfl, rfl, hk, HM, HA, HO, HZ, HB⟩ := hrel
    by_cases hlt : k < xs.length
    · have hltz : (k : Int) < (xs.length : Int) := by omega
      obtain ⟨ad, ea, a0, a1, a2⟩ := at_T37 HC.out (k : Int) (by omega) hltz
      subst ea
      obtain ⟨y, hy⟩ := ex_get hlt
      rw [rd37 hy] at a0 a1 a2
      simp only [Int.toNat_natCast] at a0 a1 a2
      replace a0 := (HB.out.cell (World.block_lt_of_cell? _ _ a0)).trans a0
      replace a1 := (HB.out.cell (World.block_lt_of_cell? _ _ a1)).trans a1
      replace a2 := (HB.out.cell (World.block_lt_of_cell? _ _ a2)).trans a2
      have HY := Aside0.mk hy
      have HFS := Aside0.mk (fstep_take (p := p) hy)
      have HMem := Aside0.mk (List.mem_of_getElem? hy)
      have hz0 := lt_of HO.out
      have n1 : (w.heap.size + 1 = wr.heap.size) = False := eq_false (by omega)
      have n2 : (wr.heap.size = w.heap.size + 1) = False := eq_false (by omega)
      have HN := Aside0.mk (heap_new wr (pO y))
      have HO1 := Aside0.mk (heap_old (o' := pO y) HO.out)
      have HZ1 := Aside0.mk (heap_old (o' := pO y) HZ.out)
      have HB1 := Aside0.mk (below_alloc HB.out (pO y))
      clear hy
      cases hacc : acc with
      | none =>
        subst hacc
        cases hq : p y with
        | true =>
          have HPq := Aside0.mk (fun W h => by have := HPp.out W y HMem.out h; rwa [hq] at this)
          have HS := Aside0.mk (show fstep p none y = some y by unfold fstep lstep; simp [hq])
          clear HPp hq
          go_wp2_with (first | (go_at_fn g; refine (HPq.out _ HB1.out).mono ?_; rintro e w3 ⟨rfl, hb⟩; have HN3 := Aside0.mk ((hb.block _ (lt_of HN.out)).trans HN.out); have HO3 := Aside0.mk ((hb.block _ (lt_of HO1.out)).trans HO1.out); have HZ3 := Aside0.mk ((hb.block _ (lt_of HZ1.out)).trans HZ1.out); have HB3 := Aside0.mk (below_step HB1.out hb); clear hb; have k0 : w3.cell? ⟨wr.heap.size, 0, none⟩ = some (.int .i64 y.f0) := cell_of HN3.out 0; have k1 : w3.cell? ⟨wr.heap.size, 1, none⟩ = some (.int .i64 y.f1) := cell_of HN3.out 1; have k2 : w3.cell? ⟨wr.heap.size, 2, none⟩ = some (.string y.f2) := cell_of HN3.out 2; have k3 : w3.frozen? ⟨w.heap.size + 1, 0, none⟩ = false := frozen_of HO3.out 0; have k4 : w3.frozen? ⟨w.heap.size + 1, 1, none⟩ = false := frozen_of HO3.out 1; have k5 : w3.frozen? ⟨w.heap.size + 1, 2, none⟩ = false := frozen_of HO3.out 2; have k6 : w3.cell? ⟨w.heap.size + 1, 0, none⟩ = some (.int .i64 (zP).f0) := cell_of HO3.out 0; have k7 : w3.cell? ⟨w.heap.size + 1, 1, none⟩ = some (.int .i64 (zP).f1) := cell_of HO3.out 1; have k8 : w3.cell? ⟨w.heap.size + 1, 2, none⟩ = some (.string (zP).f2) := cell_of HO3.out 2))
          go_roundg (xs.length - (k + 1))
          case measure => have := HM.out; omega
          case rel => exact ⟨k + 1, some y, rfl, by go_num, hlt, ⟨Nat.le_refl _⟩, ⟨by rw [HFS.out, ← HA.out]; exact HS.out.symm⟩, ⟨setCell_heap (setCell_heap (setCell_heap HO3.out _) _) _⟩, ⟨(Below.heap_setCell _ _ _ _ (show w.heap.size ≠ w.heap.size + 1 by omega)).trans ((Below.heap_setCell _ _ _ _ (show w.heap.size ≠ w.heap.size + 1 by omega)).trans ((Below.heap_setCell _ _ _ _ (show w.heap.size ≠ w.heap.size + 1 by omega)).trans HZ3.out))⟩, ⟨((HB3.out.setCell (p := ⟨w.heap.size + 1, 0, none⟩) (Nat.le_succ _) _).setCell (p := ⟨w.heap.size + 1, 1, none⟩) (Nat.le_succ _) _).setCell (p := ⟨w.heap.size + 1, 2, none⟩) (Nat.le_succ _) _⟩⟩
        | false =>
          have HPq := Aside0.mk (fun W h => by have := HPp.out W y HMem.out h; rwa [hq] at this)
          have HS := Aside0.mk (show fstep p none y = none by unfold fstep lstep; simp [hq])
          clear HPp hq
          go_wp2_with (first | (go_at_fn g; refine (HPq.out _ HB1.out).mono ?_; rintro e w3 ⟨rfl, hb⟩; have HN3 := Aside0.mk ((hb.block _ (lt_of HN.out)).trans HN.out); have HO3 := Aside0.mk ((hb.block _ (lt_of HO1.out)).trans HO1.out); have HZ3 := Aside0.mk ((hb.block _ (lt_of HZ1.out)).trans HZ1.out); have HB3 := Aside0.mk (below_step HB1.out hb); clear hb; have k0 : w3.cell? ⟨wr.heap.size, 0, none⟩ = some (.int .i64 y.f0) := cell_of HN3.out 0; have k1 : w3.cell? ⟨wr.heap.size, 1, none⟩ = some (.int .i64 y.f1) := cell_of HN3.out 1; have k2 : w3.cell? ⟨wr.heap.size, 2, none⟩ = some (.string y.f2) := cell_of HN3.out 2; have k3 : w3.frozen? ⟨w.heap.size + 1, 0, none⟩ = false := frozen_of HO3.out 0; have k4 : w3.frozen? ⟨w.heap.size + 1, 1, none⟩ = false := frozen_of HO3.out 1; have k5 : w3.frozen? ⟨w.heap.size + 1, 2, none⟩ = false := frozen_of HO3.out 2; have k6 : w3.cell? ⟨w.heap.size + 1, 0, none⟩ = some (.int .i64 (zP).f0) := cell_of HO3.out 0; have k7 : w3.cell? ⟨w.heap.size + 1, 1, none⟩ = some (.int .i64 (zP).f1) := cell_of HO3.out 1; have k8 : w3.cell? ⟨w.heap.size + 1, 2, none⟩ = some (.string (zP).f2) := cell_of HO3.out 2))
          go_roundg (xs.length - (k + 1))
          case measure => have := HM.out; omega
          case rel => exact ⟨k + 1, none, rfl, by go_num, hlt, ⟨Nat.le_refl _⟩, ⟨by rw [HFS.out, ← HA.out]; exact HS.out.symm⟩, ⟨HO3.out⟩, ⟨HZ3.out⟩, ⟨HB3.out⟩⟩
      | some q =>
        subst hacc
        have r0 : ∀ W : World, W.heap[w.heap.size + 1]? = some (pO q) → W.cell? ⟨w.heap.size + 1, 0, none⟩ = some (.int .i64 q.f0) ∧ W.cell? ⟨w.heap.size + 1, 1, none⟩ = some (.int .i64 q.f1) ∧ W.cell? ⟨w.heap.size + 1, 2, none⟩ = some (.string q.f2) := fun W h => ⟨cell_of h 0, cell_of h 1, cell_of h 2⟩
        obtain ⟨q0, q1, q2⟩ := r0 _ HO1.out
        unfold pO at q0 q1 q2
        clear r0
        by_cases hc : ltP y q
        · have hcz : cmpP y q < 0 := (cmpP_lt y q).2 hc
          cases hq : p y with
          | true =>
            have HPq := Aside0.mk (fun W h => by have := HPp.out W y HMem.out h; rwa [hq] at this)
            have HS := Aside0.mk (show fstep p (some q) y = some y by unfold fstep lstep; simp [hq, hc])
            clear HPp hq hc
            go_wp2_with (first | (go_at_call 64; refine (before_any y q _).mono ?_; rintro e w2 ⟨rfl, hb⟩; have HN2 := Aside0.mk ((hb.block _ (lt_of HN.out)).trans HN.out); have HO2 := Aside0.mk ((hb.block _ (lt_of HO1.out)).trans HO1.out); have HZ2 := Aside0.mk ((hb.block _ (lt_of HZ1.out)).trans HZ1.out); have HB2 := Aside0.mk (below_step HB1.out hb); clear hb; have k0 : w2.cell? ⟨wr.heap.size, 0, none⟩ = some (.int .i64 y.f0) := cell_of HN2.out 0; have k1 : w2.cell? ⟨wr.heap.size, 1, none⟩ = some (.int .i64 y.f1) := cell_of HN2.out 1; have k2 : w2.cell? ⟨wr.heap.size, 2, none⟩ = some (.string y.f2) := cell_of HN2.out 2; have k3 : w2.frozen? ⟨w.heap.size + 1, 0, none⟩ = false := frozen_of HO2.out 0; have k4 : w2.frozen? ⟨w.heap.size + 1, 1, none⟩ = false := frozen_of HO2.out 1; have k5 : w2.frozen? ⟨w.heap.size + 1, 2, none⟩ = false := frozen_of HO2.out 2; have k6 : w2.cell? ⟨w.heap.size + 1, 0, none⟩ = some (.int .i64 q.f0) := cell_of HO2.out 0; have k7 : w2.cell? ⟨w.heap.size + 1, 1, none⟩ = some (.int .i64 q.f1) := cell_of HO2.out 1; have k8 : w2.cell? ⟨w.heap.size + 1, 2, none⟩ = some (.string q.f2) := cell_of HO2.out 2) | (go_at_fn g; refine (HPq.out _ HB2.out).mono ?_; rintro e w3 ⟨rfl, hb⟩; have HN3 := Aside0.mk ((hb.block _ (lt_of HN2.out)).trans HN2.out); have HO3 := Aside0.mk ((hb.block _ (lt_of HO2.out)).trans HO2.out); have HZ3 := Aside0.mk ((hb.block _ (lt_of HZ2.out)).trans HZ2.out); have HB3 := Aside0.mk (below_step HB2.out hb); clear hb; have k0 : w3.cell? ⟨wr.heap.size, 0, none⟩ = some (.int .i64 y.f0) := cell_of HN3.out 0; have k1 : w3.cell? ⟨wr.heap.size, 1, none⟩ = some (.int .i64 y.f1) := cell_of HN3.out 1; have k2 : w3.cell? ⟨wr.heap.size, 2, none⟩ = some (.string y.f2) := cell_of HN3.out 2; have k3 : w3.frozen? ⟨w.heap.size + 1, 0, none⟩ = false := frozen_of HO3.out 0; have k4 : w3.frozen? ⟨w.heap.size + 1, 1, none⟩ = false := frozen_of HO3.out 1; have k5 : w3.frozen? ⟨w.heap.size + 1, 2, none⟩ = false := frozen_of HO3.out 2; have k6 : w3.cell? ⟨w.heap.size + 1, 0, none⟩ = some (.int .i64 q.f0) := cell_of HO3.out 0; have k7 : w3.cell? ⟨w.heap.size + 1, 1, none⟩ = some (.int .i64 q.f1) := cell_of HO3.out 1; have k8 : w3.cell? ⟨w.heap.size + 1, 2, none⟩ = some (.string q.f2) := cell_of HO3.out 2))
            go_roundg (xs.length - (k + 1))
            case measure => have := HM.out; omega
            case rel => exact ⟨k + 1, some y, rfl, by go_num, hlt, ⟨Nat.le_refl _⟩, ⟨by rw [HFS.out, ← HA.out]; exact HS.out.symm⟩, ⟨setCell_heap (setCell_heap (setCell_heap HO3.out _) _) _⟩, ⟨(Below.heap_setCell _ _ _ _ (show w.heap.size ≠ w.heap.size + 1 by omega)).trans ((Below.heap_setCell _ _ _ _ (show w.heap.size ≠ w.heap.size + 1 by omega)).trans ((Below.heap_setCell _ _ _ _ (show w.heap.size ≠ w.heap.size + 1 by omega)).trans HZ3.out))⟩, ⟨((HB3.out.setCell (p := ⟨w.heap.size + 1, 0, none⟩) (Nat.le_succ _) _).setCell (p := ⟨w.heap.size + 1, 1, none⟩) (Nat.le_succ _) _).setCell (p := ⟨w.heap.size + 1, 2, none⟩) (Nat.le_succ _) _⟩⟩
          | false =>
            have HPq := Aside0.mk (fun W h => by have := HPp.out W y HMem.out h; rwa [hq] at this)
            have HS := Aside0.mk (show fstep p (some q) y = some q by unfold fstep lstep; simp [hq, hc])
            clear HPp hq hc
            go_wp2_with (first | (go_at_call 64; refine (before_any y q _).mono ?_; rintro e w2 ⟨rfl, hb⟩; have HN2 := Aside0.mk ((hb.block _ (lt_of HN.out)).trans HN.out); have HO2 := Aside0.mk ((hb.block _ (lt_of HO1.out)).trans HO1.out); have HZ2 := Aside0.mk ((hb.block _ (lt_of HZ1.out)).trans HZ1.out); have HB2 := Aside0.mk (below_step HB1.out hb); clear hb; have k0 : w2.cell? ⟨wr.heap.size, 0, none⟩ = some (.int .i64 y.f0) := cell_of HN2.out 0; have k1 : w2.cell? ⟨wr.heap.size, 1, none⟩ = some (.int .i64 y.f1) := cell_of HN2.out 1; have k2 : w2.cell? ⟨wr.heap.size, 2, none⟩ = some (.string y.f2) := cell_of HN2.out 2; have k3 : w2.frozen? ⟨w.heap.size + 1, 0, none⟩ = false := frozen_of HO2.out 0; have k4 : w2.frozen? ⟨w.heap.size + 1, 1, none⟩ = false := frozen_of HO2.out 1; have k5 : w2.frozen? ⟨w.heap.size + 1, 2, none⟩ = false := frozen_of HO2.out 2; have k6 : w2.cell? ⟨w.heap.size + 1, 0, none⟩ = some (.int .i64 q.f0) := cell_of HO2.out 0; have k7 : w2.cell? ⟨w.heap.size + 1, 1, none⟩ = some (.int .i64 q.f1) := cell_of HO2.out 1; have k8 : w2.cell? ⟨w.heap.size + 1, 2, none⟩ = some (.string q.f2) := cell_of HO2.out 2) | (go_at_fn g; refine (HPq.out _ HB2.out).mono ?_; rintro e w3 ⟨rfl, hb⟩; have HN3 := Aside0.mk ((hb.block _ (lt_of HN2.out)).trans HN2.out); have HO3 := Aside0.mk ((hb.block _ (lt_of HO2.out)).trans HO2.out); have HZ3 := Aside0.mk ((hb.block _ (lt_of HZ2.out)).trans HZ2.out); have HB3 := Aside0.mk (below_step HB2.out hb); clear hb; have k0 : w3.cell? ⟨wr.heap.size, 0, none⟩ = some (.int .i64 y.f0) := cell_of HN3.out 0; have k1 : w3.cell? ⟨wr.heap.size, 1, none⟩ = some (.int .i64 y.f1) := cell_of HN3.out 1; have k2 : w3.cell? ⟨wr.heap.size, 2, none⟩ = some (.string y.f2) := cell_of HN3.out 2; have k3 : w3.frozen? ⟨w.heap.size + 1, 0, none⟩ = false := frozen_of HO3.out 0; have k4 : w3.frozen? ⟨w.heap.size + 1, 1, none⟩ = false := frozen_of HO3.out 1; have k5 : w3.frozen? ⟨w.heap.size + 1, 2, none⟩ = false := frozen_of HO3.out 2; have k6 : w3.cell? ⟨w.heap.size + 1, 0, none⟩ = some (.int .i64 q.f0) := cell_of HO3.out 0; have k7 : w3.cell? ⟨w.heap.size + 1, 1, none⟩ = some (.int .i64 q.f1) := cell_of HO3.out 1; have k8 : w3.cell? ⟨w.heap.size + 1, 2, none⟩ = some (.string q.f2) := cell_of HO3.out 2))
            go_roundg (xs.length - (k + 1))
            case measure => have := HM.out; omega
            case rel => exact ⟨k + 1, some q, rfl, by go_num, hlt, ⟨Nat.le_refl _⟩, ⟨by rw [HFS.out, ← HA.out]; exact HS.out.symm⟩, ⟨HO3.out⟩, ⟨HZ3.out⟩, ⟨HB3.out⟩⟩
        · have hcz : ¬ cmpP y q < 0 := fun h => hc ((cmpP_lt y q).1 h)
          have HS := Aside0.mk (show fstep p (some q) y = some q by unfold fstep lstep; simp [hc])
          clear HPp hc
          go_wp2_with (first | (go_at_call 64; refine (before_any y q _).mono ?_; rintro e w2 ⟨rfl, hb⟩; have HN2 := Aside0.mk ((hb.block _ (lt_of HN.out)).trans HN.out); have HO2 := Aside0.mk ((hb.block _ (lt_of HO1.out)).trans HO1.out); have HZ2 := Aside0.mk ((hb.block _ (lt_of HZ1.out)).trans HZ1.out); have HB2 := Aside0.mk (below_step HB1.out hb); clear hb; have k0 : w2.cell? ⟨wr.heap.size, 0, none⟩ = some (.int .i64 y.f0) := cell_of HN2.out 0; have k1 : w2.cell? ⟨wr.heap.size, 1, none⟩ = some (.int .i64 y.f1) := cell_of HN2.out 1; have k2 : w2.cell? ⟨wr.heap.size, 2, none⟩ = some (.string y.f2) := cell_of HN2.out 2; have k3 : w2.frozen? ⟨w.heap.size + 1, 0, none⟩ = false := frozen_of HO2.out 0; have k4 : w2.frozen? ⟨w.heap.size + 1, 1, none⟩ = false := frozen_of HO2.out 1; have k5 : w2.frozen? ⟨w.heap.size + 1, 2, none⟩ = false := frozen_of HO2.out 2; have k6 : w2.cell? ⟨w.heap.size + 1, 0, none⟩ = some (.int .i64 q.f0) := cell_of HO2.out 0; have k7 : w2.cell? ⟨w.heap.size + 1, 1, none⟩ = some (.int .i64 q.f1) := cell_of HO2.out 1; have k8 : w2.cell? ⟨w.heap.size + 1, 2, none⟩ = some (.string q.f2) := cell_of HO2.out 2))
          go_roundg (xs.length - (k + 1))
          case measure => have := HM.out; omega
          case rel => exact ⟨k + 1, some q, rfl, by go_num, hlt, ⟨Nat.le_refl _⟩, ⟨by rw [HFS.out, ← HA.out]; exact HS.out.symm⟩, ⟨HO2.out⟩, ⟨HZ2.out⟩, ⟨HB2.out⟩⟩
    · obtain rfl : k = xs.length := by omega
      have hltz : ¬ (xs.length : Int) < (xs.length : Int) := by omega
      have hacc : acc = leastS (xs.filter p) := by rw [HA.out, List.take_length]; exact HFo.out
      have hz0 := lt_of HO.out
      have n1 : (w.heap.size + 1 = w.heap.size) = False := eq_false (by omega)
      have n2 : (w.heap.size = w.heap.size + 1) = False := eq_false (by omega)
      have m0 : wr.cell? ⟨w.heap.size + 1, 0, none⟩ = some (.int .i64 (acc.getD zP).f0) := cell_of HO.out 0
      have m1 : wr.cell? ⟨w.heap.size + 1, 1, none⟩ = some (.int .i64 (acc.getD zP).f1) := cell_of HO.out 1
      have m2 : wr.cell? ⟨w.heap.size + 1, 2, none⟩ = some (.string (acc.getD zP).f2) := cell_of HO.out 2
      have k3 : wr.frozen? ⟨w.heap.size, 0, none⟩ = false := frozen_of HZ.out 0
      have k4 : wr.frozen? ⟨w.heap.size, 1, none⟩ = false := frozen_of HZ.out 1
      have k5 : wr.frozen? ⟨w.heap.size, 2, none⟩ = false := frozen_of HZ.out 2
      have j0 : wr.cell? ⟨w.heap.size, 0, none⟩ = some (.int .i64 0) := cell_of HZ.out 0
      have j1 : wr.cell? ⟨w.heap.size, 1, none⟩ = some (.int .i64 0) := cell_of HZ.out 1
      have j2 : wr.cell? ⟨w.heap.size, 2, none⟩ = some (.string ⟨#[]⟩) := cell_of HZ.out 2
      go_wp2
      subst hacc
      refine bodyPost_ret (results_ct rfl _ _ w.heap.size 37 #[.int .i64 ((leastS (xs.filter p)).getD zP).f0, .int .i64 ((leastS (xs.filter p)).getD zP).f1, .string ((leastS (xs.filter p)).getD zP).f2] (0, 0) _ rfl (setCell_heap (setCell_heap (setCell_heap HZ.out _) _) _) Tryz.underlying37 rfl (by kernel_rfl)) rfl ?_
      exact ⟨rfl, ((HB.out.setCell (p := ⟨w.heap.size, 0, none⟩) (Nat.le_refl _) _).setCell (p := ⟨w.heap.size, 1, none⟩) (Nat.le_refl _) _).setCell (p := ⟨w.heap.size, 2, none⟩) (Nat.le_refl _) _⟩
def idxF {α : Type} (p : α → Bool) (xs : List α) : Int := if xs.any p then (xs.findIdx p : Int) else -1
theorem idxF_nonneg {α : Type} (p : α → Bool) (xs : List α) : decide (idxF p xs ≥ 0) = xs.any p := by
  unfold idxF; cases h : xs.any p <;> simp
theorem any_take {α : Type} {p : α → Bool} {xs : List α} {k : Nat} {y : α} (hy : xs[k]? = some y) (h : ∀ x ∈ xs.take k, p x = false) (hp : p y = true) : idxF p xs = (k : Int) := by
  have hk : k < xs.length := (List.getElem?_eq_some_iff.1 hy).1
  have hyk : xs[k] = y := (List.getElem?_eq_some_iff.1 hy).2
  unfold idxF
  rw [if_pos (List.any_eq_true.2 ⟨y, List.mem_of_getElem? hy, hp⟩)]
  congr 1
  rw [List.findIdx_eq hk]
  refine ⟨by rw [hyk]; exact hp, fun j hj => ?_⟩
  have := h xs[j] (List.mem_take_iff_getElem.2 ⟨j, by omega, rfl⟩)
  simpa using this
theorem any_none {α : Type} {p : α → Bool} {xs : List α} (h : ∀ x ∈ xs.take xs.length, p x = false) : idxF p xs = -1 := by
  unfold idxF
  rw [if_neg]
  rw [List.any_eq_true]
  rintro ⟨x, hx, hp⟩
  rw [h x (by simpa using hx)] at hp
  cases hp
theorem take_step {α : Type} {p : α → Bool} {xs : List α} {k : Nat} {y : α} (hy : xs[k]? = some y) (h : ∀ x ∈ xs.take k, p x = false) (hp : p y = false) : ∀ x ∈ xs.take (k + 1), p x = false := by
  intro x hx
  rw [List.take_add_one, hy] at hx
  rcases List.mem_append.1 hx with h1 | h1
  · exact h x h1
  · simp at h1; subst h1; exact hp
def sv (s : S46) : Value := .agg #[.int .i64 s.f0, .int .i64 s.f1, .string s.f2.f0, .string s.f2.f1, .bool s.f2.f2]
set_option maxHeartbeats 4000000 in
set_option maxRecDepth 100000 in
theorem idxf_span (p : S46 → Bool) (g : Nat) (lb : Array Value) (eg : ∀ args w, (callFunc g args).run Tryz.prog w = .ok (.enter g args) w) (A : Option Addr) (xs : List S46) (c : Nat) (w : World) (hC : Kd.C k46 w A xs.length xs)
    (hp : ∀ (W : World) (x : S46), x ∈ xs → Below w.heap.size w W → Calls Tryz.prog g (#[sv x] ++ lb) W fun e w' => e = .returned (.bool (p x)) ∧ Below W.heap.size W w') :
    Calls Tryz.prog 60 #[.slice A xs.length c, .func (.func g) #[] lb] w fun e w' => e = .returned (.int .i64 (idxF p xs)) ∧ Below w.heap.size w w' := by
  have HC := Aside0.mk hC
  have hmax : xs.length ≤ 9223372036854775807 := hC.2.1
  clear hC
  go_enter Tryz.func60, Tryz.ntmps60
  go_wp2
  go_loopg [5, 8] xs.length (fun gg _ s8 wr => ∃ kk : Nat, s8 = .int .i64 kk ∧ Aside0 (kk ≤ xs.length) ∧ Aside0 (xs.length - kk ≤ gg) ∧ Aside0 (Below w.heap.size w wr) ∧ Aside0 (∀ x ∈ xs.take kk, p x = false))
  case atStart => exact ⟨0, rfl, ⟨Nat.zero_le _⟩, ⟨by omega⟩, ⟨Below.refl _ w⟩, ⟨fun x hx => by simp at hx⟩⟩
  case round =>
    obtain ⟨kk, rfl, HK, HM, HB, HN⟩ := hrel
    have hkk := HK.out
    by_cases hlt : kk < xs.length
    · have hltz : (kk : Int) < (xs.length : Int) := by omega
      obtain ⟨ad, e, hx0, hx1, hx2, hx3, hx4⟩ := at_T46 HC.out (kk : Int) (by omega) hltz
      subst e
      obtain ⟨y, hy⟩ := ex_get hlt
      rw [rd46 hy] at hx0 hx1 hx2 hx3 hx4
      simp only [Int.toNat_natCast] at hx0 hx1 hx2 hx3 hx4
      replace hx0 := (HB.out.cell (World.block_lt_of_cell? w _ hx0)).trans hx0
      replace hx1 := (HB.out.cell (World.block_lt_of_cell? w _ hx1)).trans hx1
      replace hx2 := (HB.out.cell (World.block_lt_of_cell? w _ hx2)).trans hx2
      replace hx3 := (HB.out.cell (World.block_lt_of_cell? w _ hx3)).trans hx3
      replace hx4 := (HB.out.cell (World.block_lt_of_cell? w _ hx4)).trans hx4
      have HY := Aside0.mk hy
      have hcall := hp wr y (List.mem_of_getElem? hy) HB.out
      unfold sv at hcall
      clear hy hp
      cases hq : p y with
      | true =>
        rw [hq] at hcall
        go_wp2_with (go_at_fn g; refine hcall.mono ?_; rintro e w' ⟨rfl, hb'⟩)
        go_ret
        exact ⟨by rw [any_take HY.out HN.out hq]; rfl, below_step HB.out hb'⟩
      | false =>
        rw [hq] at hcall
        go_wp2_with (go_at_fn g; refine hcall.mono ?_; rintro e w' ⟨rfl, hb'⟩)
        go_roundg (xs.length - (kk + 1))
        case measure => have := HM.out; omega
        case rel => exact ⟨kk + 1, by go_num, ⟨by omega⟩, ⟨Nat.le_refl _⟩, ⟨below_step HB.out hb'⟩, ⟨take_step HY.out HN.out hq⟩⟩
    · obtain rfl : kk = xs.length := by omega
      have hltz : ¬ (xs.length : Int) < (xs.length : Int) := by omega
      go_wp2
      go_ret
      exact ⟨by rw [any_none HN.out]; rfl, HB.out⟩
set_option maxHeartbeats 4000000 in
set_option maxRecDepth 100000 in
theorem idxf_point (p : S37 → Bool) (g : Nat) (lb : Array Value) (eg : ∀ args w, (callFunc g args).run Tryz.prog w = .ok (.enter g args) w) (A : Option Addr) (xs : List S37) (c : Nat) (w : World) (hC : Kd.C k37 w A xs.length xs)
    (hp : ∀ (W : World) (x : S37), x ∈ xs → Below w.heap.size w W → Calls Tryz.prog g (#[pv x] ++ lb) W fun e w' => e = .returned (.bool (p x)) ∧ Below W.heap.size W w') :
    Calls Tryz.prog 59 #[.slice A xs.length c, .func (.func g) #[] lb] w fun e w' => e = .returned (.int .i64 (idxF p xs)) ∧ Below w.heap.size w w' := by
  have HC := Aside0.mk hC
  have hmax : xs.length ≤ 9223372036854775807 := hC.2.1
  clear hC
  go_enter Tryz.func59, Tryz.ntmps59
  go_wp2
  go_loopg [5, 8] xs.length (fun gg _ s8 wr => ∃ kk : Nat, s8 = .int .i64 kk ∧ Aside0 (kk ≤ xs.length) ∧ Aside0 (xs.length - kk ≤ gg) ∧ Aside0 (Below w.heap.size w wr) ∧ Aside0 (∀ x ∈ xs.take kk, p x = false))
  case atStart => exact ⟨0, rfl, ⟨Nat.zero_le _⟩, ⟨by omega⟩, ⟨Below.refl _ w⟩, ⟨fun x hx => by simp at hx⟩⟩
  case round =>
    obtain ⟨kk, rfl, HK, HM, HB, HN⟩ := hrel
    have hkk := HK.out
    by_cases hlt : kk < xs.length
    · have hltz : (kk : Int) < (xs.length : Int) := by omega
      obtain ⟨ad, e, hx0, hx1, hx2⟩ := at_T37 HC.out (kk : Int) (by omega) hltz
      subst e
      obtain ⟨y, hy⟩ := ex_get hlt
      rw [rd37 hy] at hx0 hx1 hx2
      simp only [Int.toNat_natCast] at hx0 hx1 hx2
      replace hx0 := (HB.out.cell (World.block_lt_of_cell? w _ hx0)).trans hx0
      replace hx1 := (HB.out.cell (World.block_lt_of_cell? w _ hx1)).trans hx1
      replace hx2 := (HB.out.cell (World.block_lt_of_cell? w _ hx2)).trans hx2
      have HY := Aside0.mk hy
      have hcall := hp wr y (List.mem_of_getElem? hy) HB.out
      unfold pv at hcall
      clear hy hp
      cases hq : p y with
      | true =>
        rw [hq] at hcall
        go_wp2_with (go_at_fn g; refine hcall.mono ?_; rintro e w' ⟨rfl, hb'⟩)
        go_ret
        exact ⟨by rw [any_take HY.out HN.out hq]; rfl, below_step HB.out hb'⟩
      | false =>
        rw [hq] at hcall
        go_wp2_with (go_at_fn g; refine hcall.mono ?_; rintro e w' ⟨rfl, hb'⟩)
        go_roundg (xs.length - (kk + 1))
        case measure => have := HM.out; omega
        case rel => exact ⟨kk + 1, by go_num, ⟨by omega⟩, ⟨Nat.le_refl _⟩, ⟨below_step HB.out hb'⟩, ⟨take_step HY.out HN.out hq⟩⟩
    · obtain rfl : kk = xs.length := by omega
      have hltz : ¬ (xs.length : Int) < (xs.length : Int) := by omega
      go_wp2
      go_ret
      exact ⟨by rw [any_none HN.out]; rfl, HB.out⟩
theorem contf_span (p : S46 → Bool) (g : Nat) (lb : Array Value) (eg : ∀ args w, (callFunc g args).run Tryz.prog w = .ok (.enter g args) w) (A : Option Addr) (xs : List S46) (c : Nat) (w : World) (hC : Kd.C k46 w A xs.length xs)
    (hp : ∀ (W : World) (x : S46), x ∈ xs → Below w.heap.size w W → Calls Tryz.prog g (#[sv x] ++ lb) W fun e w' => e = .returned (.bool (p x)) ∧ Below W.heap.size W w') :
    Calls Tryz.prog 27 #[.slice A xs.length c, .func (.func g) #[] lb] w fun e w' => e = .returned (.bool (xs.any p)) ∧ Below w.heap.size w w' := by
  have hi := idxf_span p g lb eg A xs c w hC hp
  clear hp hC
  go_enter Tryz.func27, Tryz.ntmps27
  go_wp2_with (go_at_call 60; refine hi.mono ?_; rintro e w' ⟨rfl, hb⟩)
  go_ret
  exact ⟨by rw [← idxF_nonneg]; rfl, hb⟩
theorem chas_any (r : S44) (key : ByteArray) (w : World) : Calls Tryz.prog 36 #[.agg #[.string r.f0, .string r.f1, .bool r.f2], .string key] w fun e w' => e = .returned (.bool (hasB r key)) ∧ Below w.heap.size w w' :=
  code_Has.calls _ _ _ _ _ w (chas_eq r key)
theorem contains_any (L : List S37) (A : Option Addr) (c : Nat) (p : S37) (w : World) (hC : Kd.C k37 w A L.length L) (hc : L.length ≤ c) (hl : L.length < 4611686018427387904) :
    Calls Tryz.prog 34 #[.slice A L.length c, pv p] w fun e w' => e = .returned (.bool (L.any (eqP p))) ∧ Below w.heap.size w w' := by
  obtain ⟨k, hk⟩ := (contains_ev L p hl).ex
  exact api_Point_34.calls k A c L _ _ _ _ w hC hc hk
set_option maxHeartbeats 4000000 in
theorem reads1_any (s : S46) (p : S37) (b : Nat) (w : World) (hb : w.heap[b]? = some (pO p)) :
    Calls Tryz.prog 35 (#[sv s] ++ #[.pointer (some ⟨b, 0, none⟩)]) w fun e w' => e = .returned (.bool (spanB p s)) ∧ Below w.heap.size w w' := by
  have h0 : w.cell? ⟨b, 0, none⟩ = some (.int .i64 p.f0) := cell_of hb 0
  have h1 : w.cell? ⟨b, 1, none⟩ = some (.int .i64 p.f1) := cell_of hb 1
  have h2 : w.cell? ⟨b, 2, none⟩ = some (.string p.f2) := cell_of hb 2
  have hlt := lt_of hb
  have n1 : (b = w.heap.size) = False := eq_false (by omega)
  clear hb
  unfold sv
  by_cases e0 : s.f0 = p.f0
  · by_cases e1 : s.f1 = p.f1
    · have hh := fun W => chas_any s.f2 p.f2 W
      have hs : spanB p s = hasB s.f2 p.f2 := by unfold spanB; simp [e0, e1]
      rw [hs]
      go_enter Tryz.func35, Tryz.ntmps35
      go_wp2_with (go_at_call 36; refine (hh _).mono ?_; rintro e w' ⟨rfl, hB⟩)
      go_ret
      exact ⟨rfl, below_step (below_alloc (Below.refl _ _) _) hB⟩
    · have hs : spanB p s = false := by unfold spanB; simp [e0, e1]
      have e1b : (s.f1 == p.f1) = false := by simpa using e1
      rw [hs]
      go_enter Tryz.func35, Tryz.ntmps35
      go_wp2
      go_ret
      exact ⟨rfl, below_alloc (Below.refl _ _) _⟩
  · have hs : spanB p s = false := by unfold spanB; simp [e0]
    have e0b : (s.f0 == p.f0) = false := by simpa using e0
    rw [hs]
    go_enter Tryz.func35, Tryz.ntmps35
    go_wp2
    go_ret
    exact ⟨rfl, below_alloc (Below.refl _ _) _⟩
theorem enter35 : ∀ args w, (callFunc 35 args).run Tryz.prog w = .ok (.enter 35 args) w := fun args w => by simp [go_sem]
set_option maxHeartbeats 4000000 in
theorem reads_any (ps : List S37) (ss : List S46) (A0 A1 A2 : Option Addr) (n2 c0 c1 c2 : Nat) (p : S37) (w : World) (h0 : Kd.C k37 w A0 ps.length ps) (hc0 : ps.length ≤ c0) (h1 : Kd.C k46 w A1 ss.length ss) (hc1 : ss.length ≤ c1) (hl : ps.length < 4611686018427387904) :
    Calls Tryz.prog 16 #[.agg #[.slice A0 ps.length c0, .slice A1 ss.length c1, .slice A2 n2 c2], pv p] w fun e w' => e = .returned (.bool (readsS ps ss p)) ∧ Below w.heap.size w w' := by
  generalize hW : (w.alloc (.cells #[.slice A0 ps.length c0, .slice A1 ss.length c1, .slice A2 n2 c2] 25)).alloc (pO p) = W
  have hB : Below w.heap.size w W := by rw [← hW]; exact below_alloc (below_alloc (Below.refl _ _) _) _
  have g0 : W.heap[w.heap.size]? = some (.cells #[.slice A0 ps.length c0, .slice A1 ss.length c1, .slice A2 n2 c2] 25) := by rw [← hW]; exact heap_old (heap_new _ _)
  have g1 : W.heap[w.heap.size + 1]? = some (pO p) := by rw [← hW]; have := heap_new (w.alloc (.cells #[.slice A0 ps.length c0, .slice A1 ss.length c1, .slice A2 n2 c2] 25)) (pO p); rw [size_new] at this; exact this
  have hcon := contains_any ps A0 c0 p W (Kd.C_below h0 hB) hc0 hl
  have HW := Aside0.mk hW
  have HB := Aside0.mk hB
  have HC1 := Aside0.mk h1
  have HG0 := Aside0.mk g0
  have HG1 := Aside0.mk g1
  unfold pO at HW
  clear hW hB h0 h1 g0 g1
  unfold pv at hcon ⊢
  cases hq : ps.any (eqP p) with
  | true =>
    rw [hq] at hcon
    have hs : readsS ps ss p = true := by unfold readsS; rw [hq, Bool.true_or]
    rw [hs]
    clear hq hs
    go_enter Tryz.func16, Tryz.ntmps16
    go_wp2_with (go_at_call 34; rw [HW.out]; refine hcon.mono ?_; rintro e w' ⟨rfl, hb⟩)
    go_ret
    exact ⟨rfl, below_step HB.out hb⟩
  | false =>
    rw [hq] at hcon
    have hs : readsS ps ss p = ss.any (spanB p) := by unfold readsS; rw [hq, Bool.false_or]
    rw [hs]
    clear hq hs
    go_enter Tryz.func16, Tryz.ntmps16
    go_wp2_with (first | (go_at_call 34; rw [HW.out]; refine hcon.mono ?_; rintro e w3 ⟨rfl, hb⟩; have hb3 := Aside0.mk hb; have j1 : w3.cell? ⟨w.heap.size, 1, none⟩ = some (.slice A1 ss.length c1) := cell_of ((hb.block _ (lt_of HG0.out)).trans HG0.out) 1; clear hb) | (go_at_call 27; refine (contf_span (spanB p) 35 #[.pointer (some ⟨w.heap.size + 1, 0, none⟩)] enter35 A1 ss c1 _ (Kd.C_below HC1.out (below_step HB.out hb3.out)) (fun V x _ hV => reads1_any x p _ V ((hV.block _ (Nat.lt_of_lt_of_le (lt_of HG1.out) hb3.out.size)).trans ((hb3.out.block _ (lt_of HG1.out)).trans HG1.out)))).mono ?_; rintro e w4 ⟨rfl, hb4⟩; have HB4 := Aside0.mk hb4; clear hb4))
    go_ret
    exact ⟨rfl, below_step (below_step HB.out hb3.out) HB4.out⟩
structure Lay (w wr : World) (f0 f1 : Array Value) (nn : Nat) (L : List S37) : Prop where
  x0 : wr.heap[w.heap.size]? = some (.cells f0 25)
  x1 : wr.heap[w.heap.size + 1]? = some (.cells f1 25)
  x2 : wr.heap[w.heap.size + 1 + 1]? = some (pO zP)
  x3 : PM wr (w.heap.size + 1 + 1 + 1) nn L
  x4 : wr.heap[w.heap.size + 1 + 1 + 1 + 1]? = some (.cells #[.map (some (w.heap.size + 1 + 1 + 1))] 59)
  bel : Below w.heap.size w wr
theorem Lay.below {w wr W : World} {f0 f1 : Array Value} {nn : Nat} {L : List S37} (h : Lay w wr f0 f1 nn L) (hb : Below wr.heap.size wr W) : Lay w W f0 f1 nn L :=
  ⟨(hb.block _ (lt_of h.x0)).trans h.x0, (hb.block _ (lt_of h.x1)).trans h.x1, (hb.block _ (lt_of h.x2)).trans h.x2, h.x3.below hb, (hb.block _ (lt_of h.x4)).trans h.x4, below_step h.bel hb⟩
theorem Lay.put {w wr : World} {f0 f1 : Array Value} {nn : Nat} {L : List S37} (h : Lay w wr f0 f1 nn L) (hn : nn < maxLen) {x : S37} (hx : wfP x) :
    ∃ w', (Instr.mapUpdate 59 (.map (some (w.heap.size + 1 + 1 + 1))) (pv x) (.agg #[])).run Tryz.prog wr = .ok () w' ∧ Lay w w' f0 f1 (nn + 1) (L ++ [x]) := by
  obtain ⟨w', hrun, hP, hg⟩ := h.x3.put hn hx
  have hz := lt_of h.x4
  have hk : ∀ j, j < wr.heap.size → j ≠ w.heap.size + 1 + 1 + 1 → w'.heap[j]? = wr.heap[j]? := fun j hj hne => hg.block j hj (fun e => hne (Option.some.inj e))
  exact ⟨w', hrun, (hk _ (by omega) (by omega)).trans h.x0, (hk _ (by omega) (by omega)).trans h.x1, (hk _ (by omega) (by omega)).trans h.x2, hP, (hk _ (by omega) (by omega)).trans h.x4,
    h.bel.grown hg h.bel.size (fun k hk => by injection hk with hk; omega)⟩
theorem lay_new (w : World) (f0 f1 : Array Value) : Lay w (((((w.alloc (.cells f0 25)).alloc (.cells f1 25)).alloc (pO zP)).alloc (.map #[] 0)).alloc (.cells #[.map (some (w.heap.size + 1 + 1 + 1))] 59)) f0 f1 0 [] := by
  have s1 := size_new w (.cells f0 25)
  have s2 := size_new (w.alloc (.cells f0 25)) (.cells f1 25)
  have s3 := size_new ((w.alloc (.cells f0 25)).alloc (.cells f1 25)) (pO zP)
  have s4 := size_new (((w.alloc (.cells f0 25)).alloc (.cells f1 25)).alloc (pO zP)) (.map #[] 0)
  have h1 := heap_new (w.alloc (.cells f0 25)) (.cells f1 25)
  have h2 := heap_new ((w.alloc (.cells f0 25)).alloc (.cells f1 25)) (pO zP)
  have h3 := PM.new (((w.alloc (.cells f0 25)).alloc (.cells f1 25)).alloc (pO zP))
  have h4 := heap_new ((((w.alloc (.cells f0 25)).alloc (.cells f1 25)).alloc (pO zP)).alloc (.map #[] 0)) (.cells #[.map (some (w.heap.size + 1 + 1 + 1))] 59)
  rw [s1] at h1 s2
  rw [s2] at h2 s3
  rw [s3] at h3 s4
  rw [s4] at h4
  exact ⟨heap_old (heap_old (heap_old (heap_old (heap_new _ _)))), heap_old (heap_old (heap_old h1)), heap_old (heap_old h2), h3.below (below_alloc (Below.refl _ _) _), h4, below_alloc (below_alloc (below_alloc (below_alloc (below_alloc (Below.refl _ _) _) _) _) _) _⟩
theorem C_nil37 (w : World) : Kd.C k37 w none ([] : List S37).length [] := (Kd.R_reads' (Kd.R_nil k37 37 w 0 (fun _ => True))).2.2
set_option maxHeartbeats 4000000 in
theorem clash1_any (ps : List S37) (ss : List S46) (p : S37) (mv m nn sb : Nat) (A1 : Option Addr) (c1 : Nat) (w : World) (hp : wfP p) (hM : PM w m nn ps) (hv : w.heap[mv]? = some (.cells #[.map (some m)] 59)) (hs : w.heap[sb]? = some (.cells #[.slice none 0 0, .slice A1 ss.length c1, .slice none 0 0] 25)) (h1 : Kd.C k46 w A1 ss.length ss) (hc1 : ss.length ≤ c1) :
    Calls Tryz.prog 38 (#[pv p] ++ #[.pointer (some ⟨mv, 0, none⟩), .pointer (some ⟨sb, 0, none⟩)]) w fun e w' => e = .returned (.bool (readsS ps ss p)) ∧ Below w.heap.size w w' := by
  have hlook := (hM.below (below_alloc (Below.refl _ _) (pO p))).look hp
  have v0 : w.cell? ⟨mv, 0, none⟩ = some (.map (some m)) := cell_of hv 0
  have s0 : w.cell? ⟨sb, 0, none⟩ = some (.slice none 0 0) := cell_of hs 0
  have s1 : w.cell? ⟨sb, 1, none⟩ = some (.slice A1 ss.length c1) := cell_of hs 1
  have s2 : w.cell? ⟨sb, 2, none⟩ = some (.slice none 0 0) := cell_of hs 2
  have l1 := lt_of hv
  have l2 := lt_of hs
  have n1 : (mv = w.heap.size) = False := eq_false (by omega)
  have n2 : (sb = w.heap.size) = False := eq_false (by omega)
  have n3 : (sb = w.heap.size + 1) = False := eq_false (by omega)
  have n4 : (w.heap.size = w.heap.size + 1) = False := eq_false (by omega)
  have HC1 := Aside0.mk h1
  clear hM hv hs h1
  unfold pv pO at hlook
  unfold pv
  cases hq : ps.any (eqP p) with
  | true =>
    rw [hq] at hlook
    have hr : readsS ps ss p = true := by unfold readsS; rw [hq, Bool.true_or]
    rw [hr]
    clear hq hr
    go_enter Tryz.func38, Tryz.ntmps38
    go_wp2
    go_ret
    exact ⟨rfl, below_alloc (below_alloc (Below.refl _ _) _) _⟩
  | false =>
    rw [hq] at hlook
    have hr : readsS ps ss p = readsS [] ss p := by unfold readsS; rw [hq]; rfl
    rw [hr]
    clear hq hr
    go_enter Tryz.func38, Tryz.ntmps38
    go_wp2_with (go_at_call 16; refine (reads_any [] ss none A1 none 0 0 c1 0 p _ (C_nil37 _) (Nat.le_refl _) (Kd.C_below HC1.out (below_alloc (below_alloc (Below.refl _ _) _) _)) hc1 (by decide)).mono ?_; rintro e w3 ⟨rfl, hb⟩; have HB := Aside0.mk hb; clear hb)
    go_ret
    exact ⟨rfl, below_step (below_alloc (below_alloc (Below.refl _ _) _) _) HB.out⟩
theorem enter38 : ∀ args w, (callFunc 38 args).run Tryz.prog w = .ok (.enter 38 args) w := fun args w => by simp [go_sem]
set_option maxHeartbeats 8000000 in
set_option maxRecDepth 100000 in
theorem clash_any (ps : List S37) (ss : List S46) (ws : List S37) (A0 A1 A2 B0 B1 B2 : Option Addr) (n2 m0 m1 c0 c1 c2 d0 d1 d2 : Nat) (w : World) (h0 : Kd.C k37 w A0 ps.length ps) (hc0 : ps.length ≤ c0) (h1 : Kd.C k46 w A1 ss.length ss) (hc1 : ss.length ≤ c1) (h2 : Kd.C k37 w B2 ws.length ws) (hd2 : ws.length ≤ d2)
    (hl : ps.length < 4398046511104) (hwp : ∀ x ∈ ps, wfP x) (hww : ∀ x ∈ ws, wfP x) :
    Calls Tryz.prog 17 #[.agg #[.slice A0 ps.length c0, .slice A1 ss.length c1, .slice A2 n2 c2], .agg #[.slice B0 m0 d0, .slice B1 m1 d1, .slice B2 ws.length d2]] w fun e w' => e = .returned (.tuple #[pv ((leastS (ws.filter (readsS ps ss))).getD zP), .bool (leastS (ws.filter (readsS ps ss))).isSome]) ∧ Below w.heap.size w w' := by
  have hmm := @run_makeMap Tryz.prog
  have HC0 := Aside0.mk h0
  have HC1 := Aside0.mk h1
  have HC2 := Aside0.mk h2
  have HWp := Aside0.mk hwp
  have HWw := Aside0.mk hww
  clear h0 h1 h2 hwp hww
  go_enter Tryz.func17, Tryz.ntmps17
  go_wp2
  have HL0 := Aside0.mk (lay_new w #[.slice A0 ps.length c0, .slice A1 ss.length c1, .slice A2 n2 c2] #[.slice B0 m0 d0, .slice B1 m1 d1, .slice B2 ws.length d2])
  go_loopg [14] ps.length (fun gg s14 wr => ∃ k : Nat, s14 = .int .i64 k ∧ k ≤ ps.length ∧ Aside0 (ps.length - k ≤ gg) ∧ Aside0 (Lay w wr #[.slice A0 ps.length c0, .slice A1 ss.length c1, .slice A2 n2 c2] #[.slice B0 m0 d0, .slice B1 m1 d1, .slice B2 ws.length d2] k (ps.take k)))
  case atStart => exact ⟨0, rfl, Nat.zero_le _, ⟨by omega⟩, ⟨HL0.out⟩⟩
  case round =>
    clear HL0
    obtain ⟨k, rfl, hk, HM, HL⟩ := hrel
    by_cases hlt : k < ps.length
    · have hltz : (k : Int) < (ps.length : Int) := by omega
      obtain ⟨ad, ea, a0, a1, a2⟩ := at_T37 HC0.out (k : Int) (by omega) hltz
      subst ea
      obtain ⟨y, hy⟩ := ex_get hlt
      rw [rd37 hy] at a0 a1 a2
      simp only [Int.toNat_natCast] at a0 a1 a2
      replace a0 := (HL.out.bel.cell (World.block_lt_of_cell? _ _ a0)).trans a0
      replace a1 := (HL.out.bel.cell (World.block_lt_of_cell? _ _ a1)).trans a1
      replace a2 := (HL.out.bel.cell (World.block_lt_of_cell? _ _ a2)).trans a2
      obtain ⟨w3, hrun, hL3⟩ := (HL.out.below (below_alloc (Below.refl _ _) (pO y))).put (by unfold maxLen; omega) (HWp.out y (List.mem_of_getElem? hy))
      rw [← take_snoc hy] at hL3
      have HL3 := Aside0.mk hL3
      have x4 : wr.cell? ⟨w.heap.size + 1 + 1 + 1 + 1, 0, none⟩ = some (.map (some (w.heap.size + 1 + 1 + 1))) := cell_of HL.out.x4 0
      have hz := lt_of HL.out.x4
      have n1 : (w.heap.size + 1 + 1 + 1 + 1 = wr.heap.size) = False := eq_false (by omega)
      unfold pv pO at hrun
      clear hy hL3
      go_wp2
      go_roundg (ps.length - (k + 1))
      case measure => have := HM.out; omega
      case rel => exact ⟨k + 1, by go_num, hlt, ⟨Nat.le_refl _⟩, HL3⟩
    · obtain rfl : k = ps.length := by omega
      have hltz : ¬ (ps.length : Int) < (ps.length : Int) := by omega
      have hL := HL.out
      rw [List.take_length] at hL
      have HLz := Aside0.mk hL
      clear hL
      have x01 : wr.cell? ⟨w.heap.size, 1, none⟩ = some (.slice A1 ss.length c1) := cell_of HLz.out.x0 1
      have x12 : wr.cell? ⟨w.heap.size + 1, 2, none⟩ = some (.slice B2 ws.length d2) := cell_of HLz.out.x1 2
      have hz := lt_of HLz.out.x4
      have n1 : (w.heap.size + 1 = wr.heap.size) = False := eq_false (by omega)
      have HNs := Aside0.mk (heap_new wr (.cells #[.slice none 0 0, .slice A1 ss.length c1, .slice none 0 0] 25))
      have HLn := Aside0.mk (HLz.out.below (below_alloc (Below.refl _ _) (.cells #[.slice none 0 0, .slice A1 ss.length c1, .slice none 0 0] 25)))
      have HLe := Aside0.mk (least_any (readsS ps ss) 38 #[.pointer (some ⟨w.heap.size + 1 + 1 + 1 + 1, 0, none⟩), .pointer (some ⟨wr.heap.size, 0, none⟩)] enter38 B2 ws d2 (wr.alloc (.cells #[.slice none 0 0, .slice A1 ss.length c1, .slice none 0 0] 25)) (Kd.C_below HC2.out HLn.out.bel)
        (fun V x hx hV => clash1_any ps ss x _ _ _ _ A1 c1 V (HWw.out x hx) (HLn.out.below hV).x3 (HLn.out.below hV).x4 ((hV.block _ (lt_of HNs.out)).trans HNs.out) (Kd.C_below HC1.out (HLn.out.below hV).bel) hc1))
      have xn : (wr.alloc (.cells #[.slice none 0 0, .slice A1 ss.length c1, .slice none 0 0] 25)).cell? ⟨w.heap.size + 1, 2, none⟩ = some (.slice B2 ws.length d2) := cell_of HLn.out.x1 2
      go_wp2_with (go_at_call 37; refine HLe.out.mono ?_; rintro e w5 ⟨rfl, hb⟩; have HB5 := Aside0.mk hb; have HL5 := Aside0.mk (HLn.out.below hb); clear hb; have j0 : w5.cell? ⟨w.heap.size + 1 + 1, 0, none⟩ = some (.int .i64 0) := cell_of HL5.out.x2 0; have j1 : w5.cell? ⟨w.heap.size + 1 + 1, 1, none⟩ = some (.int .i64 0) := cell_of HL5.out.x2 1; have j2 : w5.cell? ⟨w.heap.size + 1 + 1, 2, none⟩ = some (.string ⟨#[]⟩) := cell_of HL5.out.x2 2; have k3 : w5.frozen? ⟨w.heap.size + 1 + 1, 0, none⟩ = false := frozen_of HL5.out.x2 0; have k4 : w5.frozen? ⟨w.heap.size + 1 + 1, 1, none⟩ = false := frozen_of HL5.out.x2 1; have k5 : w5.frozen? ⟨w.heap.size + 1 + 1, 2, none⟩ = false := frozen_of HL5.out.x2 2; unfold pv)
      refine bodyPost_ret (results_ct rfl _ _ (w.heap.size + 1 + 1) 37 #[.int .i64 ((leastS (ws.filter (readsS ps ss))).getD zP).f0, .int .i64 ((leastS (ws.filter (readsS ps ss))).getD zP).f1, .string ((leastS (ws.filter (readsS ps ss))).getD zP).f2] (0, 0) _ rfl (setCell_heap (setCell_heap (setCell_heap HL5.out.x2 _) _) _) Tryz.underlying37 rfl (by kernel_rfl)) rfl ?_
      exact ⟨rfl, ((HL5.out.bel.setCell (p := ⟨w.heap.size + 1 + 1, 0, none⟩) (by show w.heap.size ≤ w.heap.size + 1 + 1; omega) _).setCell (p := ⟨w.heap.size + 1 + 1, 1, none⟩) (by show w.heap.size ≤ w.heap.size + 1 + 1; omega) _).setCell (p := ⟨w.heap.size + 1 + 1, 2, none⟩) (by show w.heap.size ≤ w.heap.size + 1 + 1; omega) _⟩
end Go.Proofs.YtldlenjfpjihdaaGreat.PS
end
section
namespace Go.Proofs.YtldlenjfpjihdaaGreat.PS
open Go Go.RowKit Go.Proofs Go.Proofs.YtldlenjfpjihdaaGreatW.PrintWords Go.Proofs.YtldlenjfpjihdaaGreatW.PrintLast Go.Proofs.YtldlenjfpjihdaaGreatW.PrintMore
set_option linter.unusedVariables false
set_option linter.unusedSimpArgs false
def enc37 (x : S37) : List Value := [.int .i64 x.f0, .int .i64 x.f1, .string x.f2]
def RowP (w : World) (g : Nat) (xs : List S37) : Prop := ∀ (i : Nat) (x : S37), xs[i]? = some x → ∀ (j : Nat) (u : Value), (enc37 x)[j]? = some u → w.cell? ⟨g, i * 3 + j, none⟩ = some u ∧ w.frozen? ⟨g, i * 3 + j, none⟩ = false
theorem RowP.at0 {w : World} {g : Nat} {xs : List S37} (h : RowP w g xs) {i : Nat} {x : S37} (hi : xs[i]? = some x) : w.cell? ⟨g, i * 3, none⟩ = some (.int .i64 x.f0) ∧ w.cell? ⟨g, i * 3 + 1, none⟩ = some (.int .i64 x.f1) ∧ w.cell? ⟨g, i * 3 + 2, none⟩ = some (.string x.f2) ∧ w.frozen? ⟨g, i * 3, none⟩ = false ∧ w.frozen? ⟨g, i * 3 + 1, none⟩ = false ∧ w.frozen? ⟨g, i * 3 + 2, none⟩ = false :=
  ⟨(h i x hi 0 _ rfl).1, (h i x hi 1 _ rfl).1, (h i x hi 2 _ rfl).1, (h i x hi 0 _ rfl).2, (h i x hi 1 _ rfl).2, (h i x hi 2 _ rfl).2⟩
theorem RowP.same {w w' : World} {g : Nat} {xs : List S37} (h : RowP w g xs) (e : w'.heap[g]? = w.heap[g]?) : RowP w' g xs := by
  intro i x hi j u hu
  have := h i x hi j u hu
  simpa [World.cell?, World.frozen?, e] using this
theorem RowP.below {w w' : World} {g : Nat} {xs : List S37} (h : RowP w g xs) (hg : g < w.heap.size) (hb : Below w.heap.size w w') : RowP w' g xs := h.same (hb.block g hg)
theorem RowP.lt {w : World} {g : Nat} {xs : List S37} (h : RowP w g xs) (hn : 0 < xs.length) : g < w.heap.size := by
  have := (h 0 _ (List.getElem?_eq_getElem hn) 0 _ rfl).1
  exact World.block_lt_of_cell? w _ this
theorem RowP.take {w : World} {g : Nat} {xs : List S37} (h : RowP w g xs) (n : Nat) : RowP w g (xs.take n) := by
  intro i x hi
  refine h i x ?_
  rw [List.getElem?_take] at hi
  split at hi
  · exact hi
  · cases hi
theorem RowP.C {w : World} {g : Nat} {xs : List S37} (h : RowP w g xs) (hl : xs.length ≤ 9223372036854775807) : Kd.C k37 w (some ⟨g, 0, none⟩) xs.length xs := by
  refine ⟨rfl, hl, fun _ => ⟨_, rfl, fun j p hp => ⟨enc37 p, rfl, k37_mk w p, fun i u hu => ?_⟩⟩⟩
  have := (h j p hp i u hu).1
  rw [add_plain]
  exact this
theorem idxF_cases {α : Type} (p : α → Bool) (xs : List α) : (idxF p xs = -1 ∧ ∀ x ∈ xs, p x = false) ∨ ∃ k : Nat, k < xs.length ∧ idxF p xs = (k : Int) ∧ (∀ x ∈ xs.take k, p x = false) ∧ ∃ y, xs[k]? = some y ∧ p y = true := by
  unfold idxF
  cases h : xs.any p with
  | false =>
    left
    refine ⟨if_neg (by decide), fun x hx => ?_⟩
    have := List.any_eq_false.1 h x hx
    simpa using this
  | true =>
    right
    have hlt : xs.findIdx p < xs.length := List.findIdx_lt_length.2 (by simpa using h)
    refine ⟨xs.findIdx p, hlt, if_pos rfl, fun x hx => ?_, xs[xs.findIdx p], List.getElem?_eq_getElem hlt, List.findIdx_getElem⟩
    obtain ⟨j, hj, rfl⟩ := List.mem_take_iff_getElem.1 hx
    have := List.not_of_lt_findIdx (p := p) (xs := xs) (i := j) (by omega)
    simpa using this
structure KeptRowP (p : S37 → Bool) (xs L : List S37) (i j : Nat) : Prop where
  len : L.length = xs.length
  lt : i < j
  le : j ≤ xs.length
  low : L.take i = (xs.take j).filter fun x => !p x
  high : ∀ k, j ≤ k → L[k]? = xs[k]?
theorem KeptRowP.start {p : S37 → Bool} {xs : List S37} {k : Nat} {y : S37} (hk : k < xs.length) (h : ∀ x ∈ xs.take k, p x = false) (hy : xs[k]? = some y) (hp : p y = true) : KeptRowP p xs xs k (k + 1) := by
  refine ⟨rfl, Nat.lt_succ_self _, hk, ?_, fun _ _ => rfl⟩
  rw [List.take_add_one, hy, List.filter_append, List.filter_eq_self.2 (fun x hx => by rw [h x hx]; rfl)]
  simp [hp]
theorem KeptRowP.skip {p : S37 → Bool} {xs L : List S37} {i j : Nat} {y : S37} (h : KeptRowP p xs L i j) (hy : xs[j]? = some y) (hp : p y = true) : KeptRowP p xs L i (j + 1) := by
  have hj := (List.getElem?_eq_some_iff.1 hy).1
  refine ⟨h.len, Nat.lt_succ_of_lt h.lt, hj, ?_, fun k hk => h.high k (by omega)⟩
  rw [List.take_add_one, hy, List.filter_append, h.low]
  simp [hp]
theorem KeptRowP.keep {p : S37 → Bool} {xs L : List S37} {i j : Nat} {y : S37} (h : KeptRowP p xs L i j) (hy : xs[j]? = some y) (hp : p y = false) : KeptRowP p xs (L.set i y) (i + 1) (j + 1) := by
  have hj := (List.getElem?_eq_some_iff.1 hy).1
  have hlen := h.len
  have hlt := h.lt
  refine ⟨by rw [List.length_set]; exact h.len, by omega, hj, ?_, fun k hk => ?_⟩
  · rw [List.take_add_one, List.getElem?_set_self (by omega), List.take_set_of_le (Nat.le_refl _), h.low, List.take_add_one, hy, List.filter_append]
    simp [hp]
  · rw [List.getElem?_set_ne (by omega)]; exact h.high k (by omega)
theorem RowP.set {w : World} {g : Nat} {xs : List S37} (h : RowP w g xs) (i : Nat) (hi : i < xs.length) (y : S37) : RowP (w.setCells g (i * 3) (enc37 y)) g (xs.set i y) := by
  intro k x hk j u hu
  have hj : j < 3 := by have := (List.getElem?_eq_some_iff.1 hu).1; simpa [enc37] using this
  rw [World.frozen?_setCells]
  by_cases e : i = k
  · subst e
    rw [List.getElem?_set_self hi, Option.some.injEq] at hk
    subst hk
    have hin := World.cell?_setCells_in g (enc37 y) (i * 3) w (fun t ht => by
      have ht3 : t < 3 := by simpa [enc37] using ht
      have := (h i _ (List.getElem?_eq_getElem hi) t ((enc37 xs[i])[t]'(by simpa [enc37] using ht3)) (List.getElem?_eq_getElem _)).1
      rw [this]; rfl) j (by simpa [enc37] using hj)
    refine ⟨?_, (h i _ (List.getElem?_eq_getElem hi) j ((enc37 xs[i])[j]'(by simpa [enc37] using hj)) (List.getElem?_eq_getElem _)).2⟩
    rw [hin]
    have := (List.getElem?_eq_some_iff.1 hu).2
    rw [← this]
  · rw [List.getElem?_set_ne e] at hk
    rw [World.cell?_setCells_out g _ _ _ _ (fun _ _ => by simp [enc37]; omega)]
    exact h k x hk j u hu
theorem RowP.cut {w : World} {g : Nat} {xs : List S37} (h : RowP w g xs) (i : Nat) (vs : List Value) : RowP (w.setCells g (i * 3) vs) g (xs.take i) := by
  intro k x hk j u hu
  have hj : j < 3 := by have := (List.getElem?_eq_some_iff.1 hu).1; simpa [enc37] using this
  rw [List.getElem?_take] at hk
  split at hk
  · rw [World.frozen?_setCells, World.cell?_setCells_out g _ _ _ _ (fun _ _ => by left; show k * 3 + j < i * 3; omega)]
    exact h k x hk j u hu
  · cases hk
theorem below_sets {B g : Nat} {w0 w : World} (hg : B ≤ g) (vs : List Value) (o : Nat) (h : Below B w0 w) : Below B w0 (w.setCells g o vs) := by
  obtain ⟨s1, s2, s3, s4⟩ := setCells_same g vs o w
  exact ⟨s1.trans h.os, s2.trans h.tape, s3.trans h.output, by rw [s4]; exact h.size, fun i hi => (setCells_far vs o i (by omega)).trans (h.block i hi)⟩
theorem info37U : (Tryz.prog.info? 37).map (fun i => (i.zero, i.size, i.bytes)) = some (some (.agg #[(.int .i64 0), (.int .i64 0), (.string (⟨#[]⟩ : ByteArray))]), 3, 32) := by kernel_rfl
def enc46 (x : S46) : List Value := [.int .i64 x.f0, .int .i64 x.f1, .string x.f2.f0, .string x.f2.f1, .bool x.f2.f2]
def RowS (w : World) (g : Nat) (xs : List S46) : Prop := ∀ (i : Nat) (x : S46), xs[i]? = some x → ∀ (j : Nat) (u : Value), (enc46 x)[j]? = some u → w.cell? ⟨g, i * 5 + j, none⟩ = some u ∧ w.frozen? ⟨g, i * 5 + j, none⟩ = false
theorem RowS.at0 {w : World} {g : Nat} {xs : List S46} (h : RowS w g xs) {i : Nat} {x : S46} (hi : xs[i]? = some x) : w.cell? ⟨g, i * 5, none⟩ = some (.int .i64 x.f0) ∧ w.cell? ⟨g, i * 5 + 1, none⟩ = some (.int .i64 x.f1) ∧ w.cell? ⟨g, i * 5 + 2, none⟩ = some (.string x.f2.f0) ∧ w.cell? ⟨g, i * 5 + 3, none⟩ = some (.string x.f2.f1) ∧ w.cell? ⟨g, i * 5 + 4, none⟩ = some (.bool x.f2.f2) ∧ w.frozen? ⟨g, i * 5, none⟩ = false ∧ w.frozen? ⟨g, i * 5 + 1, none⟩ = false ∧ w.frozen? ⟨g, i * 5 + 2, none⟩ = false ∧ w.frozen? ⟨g, i * 5 + 3, none⟩ = false ∧ w.frozen? ⟨g, i * 5 + 4, none⟩ = false :=
  ⟨(h i x hi 0 _ rfl).1, (h i x hi 1 _ rfl).1, (h i x hi 2 _ rfl).1, (h i x hi 3 _ rfl).1, (h i x hi 4 _ rfl).1, (h i x hi 0 _ rfl).2, (h i x hi 1 _ rfl).2, (h i x hi 2 _ rfl).2, (h i x hi 3 _ rfl).2, (h i x hi 4 _ rfl).2⟩
theorem RowS.same {w w' : World} {g : Nat} {xs : List S46} (h : RowS w g xs) (e : w'.heap[g]? = w.heap[g]?) : RowS w' g xs := by
  intro i x hi j u hu
  have := h i x hi j u hu
  simpa [World.cell?, World.frozen?, e] using this
theorem RowS.below {w w' : World} {g : Nat} {xs : List S46} (h : RowS w g xs) (hg : g < w.heap.size) (hb : Below w.heap.size w w') : RowS w' g xs := h.same (hb.block g hg)
theorem RowS.lt {w : World} {g : Nat} {xs : List S46} (h : RowS w g xs) (hn : 0 < xs.length) : g < w.heap.size := by
  have := (h 0 _ (List.getElem?_eq_getElem hn) 0 _ rfl).1
  exact World.block_lt_of_cell? w _ this
theorem RowS.take {w : World} {g : Nat} {xs : List S46} (h : RowS w g xs) (n : Nat) : RowS w g (xs.take n) := by
  intro i x hi
  refine h i x ?_
  rw [List.getElem?_take] at hi
  split at hi
  · exact hi
  · cases hi
theorem RowS.C {w : World} {g : Nat} {xs : List S46} (h : RowS w g xs) (hl : xs.length ≤ 9223372036854775807) : Kd.C k46 w (some ⟨g, 0, none⟩) xs.length xs := by
  refine ⟨rfl, hl, fun _ => ⟨_, rfl, fun j p hp => ⟨enc46 p, rfl, k46_mk w p, fun i u hu => ?_⟩⟩⟩
  have := (h j p hp i u hu).1
  rw [add_plain]
  exact this
structure KeptRowS (p : S46 → Bool) (xs L : List S46) (i j : Nat) : Prop where
  len : L.length = xs.length
  lt : i < j
  le : j ≤ xs.length
  low : L.take i = (xs.take j).filter fun x => !p x
  high : ∀ k, j ≤ k → L[k]? = xs[k]?
theorem KeptRowS.start {p : S46 → Bool} {xs : List S46} {k : Nat} {y : S46} (hk : k < xs.length) (h : ∀ x ∈ xs.take k, p x = false) (hy : xs[k]? = some y) (hp : p y = true) : KeptRowS p xs xs k (k + 1) := by
  refine ⟨rfl, Nat.lt_succ_self _, hk, ?_, fun _ _ => rfl⟩
  rw [List.take_add_one, hy, List.filter_append, List.filter_eq_self.2 (fun x hx => by rw [h x hx]; rfl)]
  simp [hp]
theorem KeptRowS.skip {p : S46 → Bool} {xs L : List S46} {i j : Nat} {y : S46} (h : KeptRowS p xs L i j) (hy : xs[j]? = some y) (hp : p y = true) : KeptRowS p xs L i (j + 1) := by
  have hj := (List.getElem?_eq_some_iff.1 hy).1
  refine ⟨h.len, Nat.lt_succ_of_lt h.lt, hj, ?_, fun k hk => h.high k (by omega)⟩
  rw [List.take_add_one, hy, List.filter_append, h.low]
  simp [hp]
theorem KeptRowS.keep {p : S46 → Bool} {xs L : List S46} {i j : Nat} {y : S46} (h : KeptRowS p xs L i j) (hy : xs[j]? = some y) (hp : p y = false) : KeptRowS p xs (L.set i y) (i + 1) (j + 1) := by
  have hj := (List.getElem?_eq_some_iff.1 hy).1
  have hlen := h.len
  have hlt := h.lt
  refine ⟨by rw [List.length_set]; exact h.len, by omega, hj, ?_, fun k hk => ?_⟩
  · rw [List.take_add_one, List.getElem?_set_self (by omega), List.take_set_of_le (Nat.le_refl _), h.low, List.take_add_one, hy, List.filter_append]
    simp [hp]
  · rw [List.getElem?_set_ne (by omega)]; exact h.high k (by omega)
theorem RowS.set {w : World} {g : Nat} {xs : List S46} (h : RowS w g xs) (i : Nat) (hi : i < xs.length) (y : S46) : RowS (w.setCells g (i * 5) (enc46 y)) g (xs.set i y) := by
  intro k x hk j u hu
  have hj : j < 5 := by have := (List.getElem?_eq_some_iff.1 hu).1; simpa [enc46] using this
  rw [World.frozen?_setCells]
  by_cases e : i = k
  · subst e
    rw [List.getElem?_set_self hi, Option.some.injEq] at hk
    subst hk
    have hin := World.cell?_setCells_in g (enc46 y) (i * 5) w (fun t ht => by
      have ht3 : t < 5 := by simpa [enc46] using ht
      have := (h i _ (List.getElem?_eq_getElem hi) t ((enc46 xs[i])[t]'(by simpa [enc46] using ht3)) (List.getElem?_eq_getElem _)).1
      rw [this]; rfl) j (by simpa [enc46] using hj)
    refine ⟨?_, (h i _ (List.getElem?_eq_getElem hi) j ((enc46 xs[i])[j]'(by simpa [enc46] using hj)) (List.getElem?_eq_getElem _)).2⟩
    rw [hin]
    have := (List.getElem?_eq_some_iff.1 hu).2
    rw [← this]
  · rw [List.getElem?_set_ne e] at hk
    rw [World.cell?_setCells_out g _ _ _ _ (fun _ _ => by simp [enc46]; omega)]
    exact h k x hk j u hu
theorem RowS.cut {w : World} {g : Nat} {xs : List S46} (h : RowS w g xs) (i : Nat) (vs : List Value) : RowS (w.setCells g (i * 5) vs) g (xs.take i) := by
  intro k x hk j u hu
  have hj : j < 5 := by have := (List.getElem?_eq_some_iff.1 hu).1; simpa [enc46] using this
  rw [List.getElem?_take] at hk
  split at hk
  · rw [World.frozen?_setCells, World.cell?_setCells_out g _ _ _ _ (fun _ _ => by left; show k * 5 + j < i * 5; omega)]
    exact h k x hk j u hu
  · cases hk
theorem info46U : (Tryz.prog.info? 46).map (fun i => (i.zero, i.size, i.bytes)) = some (some (.agg #[(.int .i64 0), (.int .i64 0), (.string (⟨#[]⟩ : ByteArray)), (.string (⟨#[]⟩ : ByteArray)), (.bool false)]), 5, 56) := by kernel_rfl
end Go.Proofs.YtldlenjfpjihdaaGreat.PS
end
section
namespace Go.Proofs.YtldlenjfpjihdaaGreat.PS
open Go Go.RowKit Go.Proofs Go.Maps Go.Proofs.YtldlenjfpjihdaaGreatW.PrintWords Go.Proofs.YtldlenjfpjihdaaGreatW.PrintLast Go.Proofs.YtldlenjfpjihdaaGreatW.PrintMore
set_option linter.unusedVariables false
set_option linter.unusedSimpArgs false
theorem results_c1 {P : Program} {fn : Func} {p : Tmp} {ty : TypeId} (h : fn.results = #[.cell p ty]) (tmps : Array Value) (w : World) (g : Nat) (t : TypeId) (cs : Array Value) (fr : Nat × Nat) (d : TypeDesc)
    (hp : tmps.getD p undef = .pointer (some ⟨g, 0, none⟩)) (hg : w.heap[g]? = some (.cells cs t fr))
    (hu : P.underlying ty = some d) (hd : (match d with | .struct _ | .array _ _ => true | _ => false) = true) (hi : (P.info? ty).map (·.size) = some cs.size) :
    (results fn tmps).run P w = .ok (.agg cs) w := by
  have hp' : tmps[p]?.getD undef = .pointer (some ⟨g, 0, none⟩) := by simpa using hp
  simp [results, h, hp', asAddr, run_loadVar_row w g t ty cs fr d hg hu hd hi]
def ClP (W : World) (base : Nat) (v : Value) (xs : List S37) : Prop := (v = .slice none 0 0 ∧ xs = []) ∨ ∃ g cap, v = .slice (some ⟨g, 0, none⟩) xs.length cap ∧ base ≤ g ∧ g < W.heap.size ∧ xs.length ≤ cap ∧ RowP W g xs
theorem ClP.below {w w' : World} {base : Nat} {v : Value} {xs : List S37} (h : ClP w base v xs) (hb : Below w.heap.size w w') : ClP w' base v xs := by
  rcases h with h | ⟨g, cap, e, h1, h2, h3, h4⟩
  · exact .inl h
  · exact .inr ⟨g, cap, e, h1, Nat.lt_of_lt_of_le h2 hb.size, h3, h4.below h2 hb⟩
theorem ClP.form {w : World} {base : Nat} {v : Value} {xs : List S37} (h : ClP w base v xs) : ∃ A n c, v = .slice A n c := by
  rcases h with ⟨rfl, _⟩ | ⟨g, cap, rfl, _⟩
  · exact ⟨_, _, _, rfl⟩
  · exact ⟨_, _, _, rfl⟩
theorem ClP.reads {w : World} {base : Nat} {v : Value} {xs : List S37} (h : ClP w base v xs) (hl : xs.length ≤ 9223372036854775807) : ∃ A c, v = .slice A xs.length c ∧ xs.length ≤ c ∧ Kd.C k37 w A xs.length xs := by
  rcases h with ⟨rfl, rfl⟩ | ⟨g, cap, e, h1, h2, h3, h4⟩
  · exact ⟨none, 0, rfl, Nat.le_refl _, (Kd.R_reads' (Kd.R_nil k37 37 w 0 (fun _ => True))).2.2⟩
  · exact ⟨_, cap, e, h3, h4.C hl⟩
def ClS (W : World) (base : Nat) (v : Value) (xs : List S46) : Prop := (v = .slice none 0 0 ∧ xs = []) ∨ ∃ g cap, v = .slice (some ⟨g, 0, none⟩) xs.length cap ∧ base ≤ g ∧ g < W.heap.size ∧ xs.length ≤ cap ∧ RowS W g xs
theorem ClS.below {w w' : World} {base : Nat} {v : Value} {xs : List S46} (h : ClS w base v xs) (hb : Below w.heap.size w w') : ClS w' base v xs := by
  rcases h with h | ⟨g, cap, e, h1, h2, h3, h4⟩
  · exact .inl h
  · exact .inr ⟨g, cap, e, h1, Nat.lt_of_lt_of_le h2 hb.size, h3, h4.below h2 hb⟩
theorem ClS.form {w : World} {base : Nat} {v : Value} {xs : List S46} (h : ClS w base v xs) : ∃ A n c, v = .slice A n c := by
  rcases h with ⟨rfl, _⟩ | ⟨g, cap, rfl, _⟩
  · exact ⟨_, _, _, rfl⟩
  · exact ⟨_, _, _, rfl⟩
theorem ClS.reads {w : World} {base : Nat} {v : Value} {xs : List S46} (h : ClS w base v xs) (hl : xs.length ≤ 9223372036854775807) : ∃ A c, v = .slice A xs.length c ∧ xs.length ≤ c ∧ Kd.C k46 w A xs.length xs := by
  rcases h with ⟨rfl, rfl⟩ | ⟨g, cap, e, h1, h2, h3, h4⟩
  · exact ⟨none, 0, rfl, Nat.le_refl _, (Kd.R_reads' (Kd.R_nil k46 46 w 0 (fun _ => True))).2.2⟩
  · exact ⟨_, cap, e, h3, h4.C hl⟩
def T20_3 : Bool × List (List Nat × List Nat) := (true, [([], []), ([], []), ([1], [1]), ([2], [2]), ([0, 3], [0, 3]), ([4], [4]), ([], []), ([], []), ([7], [7]), ([8], [8]), ([6, 9], [6, 9]), ([10, 5], [10]), ([5, 11, 0, 1, 2, 3, 4, 5], [5]), ([11, 12, 0, 1, 2, 3, 4, 5, 6, 7, 8, 9, 10, 11, 12], [11])])
theorem tab20_3 : rtab .any (opsOf Tryz.f55 3) = T20_3 := by kernel_rfl
def T20_6 : Bool × List (List Nat × List Nat) := (true, [([], []), ([0], [0]), ([1], [1]), ([2], [2]), ([3], [3]), ([4, 3], [3, 4]), ([5, 3], [3, 5]), ([6, 3, 3], [3, 6]), ([7], [7]), ([8, 7], [7, 8]), ([9, 7], [7, 9]), ([7], [7]), ([11, 7], [7, 11]), ([12, 7], [7, 12]), ([10, 13, 7, 7], [7, 10, 13]), ([14, 7], [7, 14]), ([7, 15, 3], [3, 7, 15]), ([3, 16], [3, 16])])
theorem tab20_6 : rtab .any (opsOf Tryz.f55 6) = T20_6 := by kernel_rfl
def T20_9 : Bool × List (List Nat × List Nat) := (true, [([], []), ([0], [0]), ([1], [1]), ([2], [2]), ([3], [3]), ([4, 3], [3, 4]), ([5, 3], [3, 5]), ([3], [3]), ([7, 3], [3, 7]), ([8, 3], [3, 8]), ([6, 9, 3, 3], [3, 6, 9]), ([10, 3], [3, 10]), ([3, 11], [3, 11])])
theorem tab20_9 : rtab .any (opsOf Tryz.f55 9) = T20_9 := by kernel_rfl
theorem add_zero_ (a : Addr) : a.add 0 = a := by cases a; simp [Addr.add]
theorem app37 {ops : Array Oper} {rest : List Oper} {o : Oper} {a : Act} {Q : Exit → Act → World → Prop} {w0 W : World} {base n0 : Nat} (hgd : o.guard = none) (s x : Operand) (ho : o.op = .call { callee := .builtin .append, args := #[s, x], argTypes := #[22, 22] })
    (v : Value) (xs : List S37) (p : S37) (hs : a.eval s = v) (hx : a.eval x = .slice (some ⟨n0, 0, none⟩) 1 1) (hn0 : n0 = W.heap.size) {ok : Nat → Prop} (hok : ∀ k, W.heap.size ≤ k → ok k)
    (HO : Kd.R k37 37 W base ok v xs) (HB : Below base w0 W) (hbase : base ≤ W.heap.size) (hl : (xs.length + 1) * 32 ≤ 140737488355328)
    (h : ∀ v1 w1, Kd.R k37 37 w1 base ok v1 (xs ++ [p]) → Below base w0 w1 → W.grownBy w1 v.ownBlock → wpList Tryz.prog ops Q rest (a.put o.dst v1) w1) :
    wpList Tryz.prog ops Q (o :: rest) a (W.alloc (.cells #[.int .i64 p.f0, .int .i64 p.f1, .string p.f2] 37)) := by
  subst hn0
  refine Kd.R_append k37 (w0 := w0) (W := W) base hgd s x 22 37 (.agg #[(.int .i64 0), (.int .i64 0), (.string ⟨#[]⟩)]) 32 ho Tryz.underlying22 info37 rfl (by decide) (by omega) v xs p [.int .i64 p.f0, .int .i64 p.f1, .string p.f2] ok (fun _ => False) hs hx (k37_mkM _ _ _ p) (fun _ hk => hk.elim) hok HO HB hbase hl ?_
  intro v1 w1 ho hb hg _
  exact h v1 w1 ho hb hg
def SortedAt (l : List S37) (w : World) (e : Ending) (w' : World) : Prop := ∃ (A' : Option Addr) (c' : Nat) (r : List S37), e = .returned (.slice A' r.length c') ∧ r.length ≤ c' ∧ Sorts l r ∧ Kd.C k37 w' A' r.length r ∧ Below w.heap.size w w'
set_option maxHeartbeats 8000000 in
set_option maxRecDepth 100000 in
theorem sorted_any : ∀ (N : Nat) (l : List S37) (A : Option Addr) (c : Nat) (w : World), l.length = N → Kd.C k37 w A l.length l → l.length ≤ c → l.length < 4398046511104 → Calls Tryz.prog 55 #[.slice A l.length c] w (SortedAt l w) := by
  intro N
  induction N using Nat.strongRecOn with
  | _ N ih =>
    intro l A c w hN hC hc hl
    subst hN
    have HC := Aside0.mk hC
    clear hC
    by_cases h2 : l.length < 2
    · have h2z : (l.length : Int) < 2 := by omega
      go_enter Tryz.func55, Tryz.ntmps55
      go_wp2
      go_ret
      exact ⟨A, c, l, rfl, hc, sorts_one h2, HC.out, Below.refl _ _⟩
    · have h2z : ¬ (l.length : Int) < 2 := by omega
      obtain ⟨h, hh⟩ : ∃ h, h = l.length / 2 := ⟨_, rfl⟩
      have hd0 : (l.length : Int) / 2 = (h : Int) := by omega
      have hd : IntKind.i64.wrap ((l.length : Int) / 2) = (h : Int) := by
        have e : IntKind.i64.wrap (h : Int) = wrap64 (h : Int) := i64_w _
        rw [hd0, e]
        exact wrap64_id (by omega) (by omega)
      clear hd0
      have h1 : 0 < h := by omega
      have h3 : h < l.length := by omega
      have h4 : (h : Int) ≤ (l.length : Int) := by omega
      have h5 : (h : Int) ≤ (c : Int) := by omega
      have HH := Aside0.mk hh
      clear hh
      have IH := Aside0.mk ih
      clear ih
      go_enter Tryz.func55, Tryz.ntmps55
      go_wp2
      refine start_ (n := 14) (S := fun w' => True) (ds := []) #[false, false, false, false, false, false, false, false, false, false, false, false, false, false] (by kernel_rfl) rfl rfl trivial (fun hHeld => ?_); refine with_tab tab20_3 (fun HT_ => ?_)
      have HB2 := Aside0.mk (below_drew1 (Below.refl w.heap.size w))
      generalize w.drew = w2 at HB2 hHeld ⊢
      refine pure_ (i := 0) (N := some 10) (v := ?_) (a' := ?_) #[true, false, false, false, false, false, false, false, false, false, false, false, false, false] rfl rfl (any_of HT_.out (by kernel_rfl)) (fun _ _ _ h => h) (Or.inl ⟨by rfl, ?_⟩) ?_ ?_
      rotate_left
      · intro w'
        go_simp
        with_reducible rfl
      rotate_left
      · simp only [Act.put, List.setIfInBounds_toArray, List.set_cons_zero, List.set_cons_succ, i64_w, i32_w]
        rfl
      refine pure_ (i := 1) (N := some 11) (v := ?_) (a' := ?_) #[true, true, false, false, false, false, false, false, false, false, false, false, false, false] rfl rfl (any_of HT_.out (by kernel_rfl)) (fun _ _ _ h => h) (Or.inl ⟨by rfl, ?_⟩) ?_ ?_
      rotate_left
      · intro w'
        go_simp
        with_reducible rfl
      rotate_left
      · simp only [Act.put, List.setIfInBounds_toArray, List.set_cons_zero, List.set_cons_succ, i64_w, i32_w]
        rfl
      refine pure_ (i := 2) (N := some 12) (v := ?_) (a' := ?_) #[true, true, true, false, false, false, false, false, false, false, false, false, false, false] rfl rfl (any_of HT_.out (by kernel_rfl)) (fun _ _ _ h => h) (Or.inl ⟨by rfl, ?_⟩) ?_ ?_
      rotate_left
      · intro w'
        go_simp
        with_reducible rfl
      rotate_left
      · simp only [Act.put, List.setIfInBounds_toArray, List.set_cons_zero, List.set_cons_succ, i64_w, i32_w]
        rfl
      refine pure_ (i := 3) (N := some 13) (v := ?_) (a' := ?_) #[true, true, true, true, false, false, false, false, false, false, false, false, false, false] rfl rfl (any_of HT_.out (by kernel_rfl)) (fun _ _ _ h => h) (Or.inl ⟨by rfl, ?_⟩) ?_ ?_
      rotate_left
      · intro w'
        go_simp
        with_reducible rfl
      rotate_left
      · simp only [Act.put, List.setIfInBounds_toArray, List.set_cons_zero, List.set_cons_succ, i64_w, i32_w]
        rfl
      refine pure_ (i := 4) (N := some 14) (v := ?_) (a' := ?_) #[true, true, true, true, true, false, false, false, false, false, false, false, false, false] rfl rfl (any_of HT_.out (by kernel_rfl)) (fun _ _ _ h => h) (Or.inl ⟨by rfl, ?_⟩) ?_ ?_
      rotate_left
      · intro w'
        go_simp
        with_reducible rfl
      rotate_left
      · simp only [Act.put, List.setIfInBounds_toArray, List.set_cons_zero, List.set_cons_succ, i64_w, i32_w]
        rfl
      refine pure_ (i := 6) (N := some 16) (v := ?_) (a' := ?_) #[true, true, true, true, true, false, true, false, false, false, false, false, false, false] rfl rfl (any_of HT_.out (by kernel_rfl)) (fun _ _ _ h => h) (Or.inl ⟨by rfl, ?_⟩) ?_ ?_
      rotate_left
      · intro w'
        go_simp
        with_reducible rfl
      rotate_left
      · simp only [Act.put, List.setIfInBounds_toArray, List.set_cons_zero, List.set_cons_succ, i64_w, i32_w]
        rfl
      refine pure_ (i := 7) (N := some 17) (v := ?_) (a' := ?_) #[true, true, true, true, true, false, true, true, false, false, false, false, false, false] rfl rfl (any_of HT_.out (by kernel_rfl)) (fun _ _ _ h => h) (Or.inl ⟨by rfl, ?_⟩) ?_ ?_
      rotate_left
      · intro w'
        go_simp
        with_reducible rfl
      rotate_left
      · simp only [Act.put, List.setIfInBounds_toArray, List.set_cons_zero, List.set_cons_succ, i64_w, i32_w]
        rfl
      refine pure_ (i := 8) (N := some 18) (v := ?_) (a' := ?_) #[true, true, true, true, true, false, true, true, true, false, false, false, false, false] rfl rfl (any_of HT_.out (by kernel_rfl)) (fun _ _ _ h => h) (Or.inl ⟨by rfl, ?_⟩) ?_ ?_
      rotate_left
      · intro w'
        go_simp
        with_reducible rfl
      rotate_left
      · simp only [Act.put, List.setIfInBounds_toArray, List.set_cons_zero, List.set_cons_succ, i64_w, i32_w]
        rfl
      refine pure_ (i := 9) (N := some 19) (v := ?_) (a' := ?_) #[true, true, true, true, true, false, true, true, true, true, false, false, false, false] rfl rfl (any_of HT_.out (by kernel_rfl)) (fun _ _ _ h => h) (Or.inl ⟨by rfl, ?_⟩) ?_ ?_
      rotate_left
      · intro w'
        go_simp
        with_reducible rfl
      rotate_left
      · simp only [Act.put, List.setIfInBounds_toArray, List.set_cons_zero, List.set_cons_succ, i64_w, i32_w]
        rfl
      refine pure_ (i := 10) (N := some 20) (v := ?_) (a' := ?_) #[true, true, true, true, true, false, true, true, true, true, true, false, false, false] rfl rfl (any_of HT_.out (by kernel_rfl)) (fun _ _ _ h => h) (Or.inl ⟨by rfl, ?_⟩) ?_ ?_
      rotate_left
      · intro w'
        go_simp
        with_reducible rfl
      rotate_left
      · simp only [Act.put, List.setIfInBounds_toArray, List.set_cons_zero, List.set_cons_succ, i64_w, i32_w]
        rfl
      have e1 : (l.take h).length = h := by rw [List.length_take]; omega
      have e2 : (l.drop h).length = l.length - h := List.length_drop
      have hcall1 := IH.out h h3 (l.take h) A c w2 e1 (Kd.C_take (Kd.C_below HC.out HB2.out) (by omega)) (by omega) (by omega)
      rw [e1] at hcall1
      refine one_ (i := 5) (N := some 15) #[true, true, true, true, true, true, true, true, true, true, true, false, false, false] rfl rfl (one_of HT_.out (by kernel_rfl)) (by decide) (fun K hK => ?_)
      refine goes_ Tryz.func55 (by kernel_rfl) rfl #[.slice A h c] (by rfl) rfl rfl (by (try simp only [List.map_toArray, List.map_cons, List.map_nil]); first | done | rfl) ?_
      refine hcall1.mono ?_
      rintro e w3 ⟨A3, c3, r3, rfl, hc3, hs3, hC3, hb⟩
      refine ⟨_, rfl, ?_⟩
      have HB3 := Aside0.mk (below_step HB2.out hb); have HS3 := Aside0.mk hs3; have HC3 := Aside0.mk hC3; clear hb hs3 hC3 hcall1
      refine hK.out _ _ trivial (fun hHeld3 => ?_)
      clear hK K
      refine norm_ (a' := ?_) ?_ ?_
      rotate_left
      · show Act.put _ (some 15) _ = _
        simp only [Act.put, List.setIfInBounds_toArray, List.set_cons_zero, List.set_cons_succ, i64_w, i32_w]
        rfl
      have hcall2 := IH.out (l.length - h) (by omega) (l.drop h) (if c = h then A else A.map (·.add (h * 3))) (c - h) w3 e2 (Kd.C_drop (Kd.C_below HC.out HB3.out) (by omega) hc) (by omega) (by omega)
      rw [e2] at hcall2
      refine one_ (i := 11) (N := some 21) #[true, true, true, true, true, true, true, true, true, true, true, true, false, false] rfl rfl (one_of HT_.out (by kernel_rfl)) (by decide) (fun K hK => ?_)
      refine goes_ Tryz.func55 (by kernel_rfl) rfl #[.slice (if c = h then A else A.map (·.add (h * 3))) (l.length - h) (c - h)] (by rfl) rfl rfl (by (try simp only [List.map_toArray, List.map_cons, List.map_nil]); first | done | rfl) ?_
      refine hcall2.mono ?_
      rintro e w4 ⟨A4, c4, r4, rfl, hc4, hs4, hC4, hb⟩
      refine ⟨_, rfl, ?_⟩
      have HC3' := Aside0.mk (Kd.C_below HC3.out hb); have HB4 := Aside0.mk (below_step HB3.out hb); have HS4 := Aside0.mk hs4; have HC4 := Aside0.mk hC4; clear hb hs4 hC4 hcall2
      refine hK.out _ _ trivial (fun hHeld4 => ?_)
      clear hK K
      refine norm_ (a' := ?_) ?_ ?_
      rotate_left
      · show Act.put _ (some 21) _ = _
        simp only [Act.put, List.setIfInBounds_toArray, List.set_cons_zero, List.set_cons_succ, i64_w, i32_w]
        rfl
      refine pure_ (i := 12) (N := some 3) (v := ?_) (a' := ?_) #[true, true, true, true, true, true, true, true, true, true, true, true, true, false] rfl rfl (any_of HT_.out (by kernel_rfl)) (fun _ _ _ h => h) (Or.inl ⟨by rfl, ?_⟩) ?_ ?_
      rotate_left
      · intro w'
        go_simp
        with_reducible rfl
      rotate_left
      · simp only [Act.put, List.setIfInBounds_toArray, List.set_cons_zero, List.set_cons_succ, i64_w, i32_w]
        rfl
      refine pure_ (i := 13) (N := some 4) (v := ?_) (a' := ?_) #[true, true, true, true, true, true, true, true, true, true, true, true, true, true] rfl rfl (any_of HT_.out (by kernel_rfl)) (fun _ _ _ h => h) (Or.inl ⟨by rfl, ?_⟩) ?_ ?_
      rotate_left
      · intro w'
        go_simp
        with_reducible rfl
      rotate_left
      · simp only [Act.put, List.setIfInBounds_toArray, List.set_cons_zero, List.set_cons_succ, i64_w, i32_w]
        rfl
      refine done_ (done_of HT_.out (by kernel_rfl)) ?_
      have HSm := Aside0.mk (sorts_merge HS3.out HS4.out)
      clear hHeld hHeld3 hHeld4 HT_
      go_wp2_with ((with_reducible refine gate_dst (N := 22) rfl ?_); refine Kd.R_lit k37 _ 37 ?hg (N := 22) ?hd (xs := ([] : List (S37))) (inner := []) (ok := fun _ => True) (okp := fun _ => True) ?hr ?hp (fun _ hk => hk) trivial (Below.refl _ _) (Nat.le_refl _) (by simp) ?_; (case hd => rfl); (case hg => rfl); (case hr => first | (go_simp; done) | (go_simp; rfl)); (case hp => exact (Reps.none _ _)); intro v5 w5 ho5 hb5 hg_ hnew_; clear hg_ hnew_; have HO5 := Aside0.mk ho5; have HB5 := Aside0.mk hb5; clear ho5 hb5)
      go_loopg [3, 4, 5] (r3.length + r4.length) (fun gg s3 s4 s5 wr => ∃ (a b o : List S37) (Aa Ab : Option Addr) (ca cb : Nat), s3 = .slice Aa a.length ca ∧ s4 = .slice Ab b.length cb ∧ a.length ≤ ca ∧ b.length ≤ cb ∧ Aside0 (a.length + b.length ≤ gg) ∧ Aside0 (o.length + (a.length + b.length) ≤ l.length) ∧ Aside0 (o ++ mergeP a b = mergeP r3 r4) ∧ Aside0 (Kd.C k37 w4 Aa a.length a) ∧ Aside0 (Kd.C k37 w4 Ab b.length b) ∧ Aside0 (Kd.R k37 37 wr w4.heap.size (fun _ => True) s5 o) ∧ Aside0 (Below w4.heap.size w4 wr))
      case atStart => exact ⟨r3, r4, [], A3, A4, c3, c4, rfl, rfl, hc3, hc4, ⟨Nat.le_refl _⟩, ⟨by have h1 := HS3.out.2.2; have h2 := HS4.out.2.2; rw [e1] at h1; rw [e2] at h2; simp only [List.length_nil]; omega⟩, ⟨rfl⟩, ⟨HC3'.out⟩, ⟨HC4.out⟩, ⟨HO5.out⟩, ⟨HB5.out⟩⟩
      case round =>
        obtain ⟨a, b, o, Aa, Ab, ca, cb, rfl, rfl, hca, hcb, HM, HLen, HEq, HCa, HCb, HO, HBr⟩ := hrel
        cases a with
        | nil =>
          cases b with
          | nil =>
            have hm : o = mergeP r3 r4 := by have := HEq.out; rwa [show mergeP [] [] = [] by unfold mergeP; rfl, List.append_nil] at this
            subst hm
            obtain ⟨Ao, co, rfl⟩ := Kd.R_slice HO.out
            obtain ⟨_, hro, hCo⟩ := Kd.R_reads' HO.out
            have HRo := Aside0.mk hCo
            clear hCo
            go_wp2
            go_ret
            exact ⟨Ao, co, _, rfl, hro, HSm.out, HRo.out, below_step HB4.out HBr.out⟩
          | cons y b =>
            obtain ⟨ad, ea, a0, a1, a2⟩ := at_T37 HCb.out 0 (by decide) (by simp only [List.length_cons]; omega)
            subst ea
            rw [show rd_T37 (y :: b) 0 = y from rfl] at a0 a1 a2
            simp only [Int.toNat_zero, Nat.zero_mul, add_zero_] at a0 a1 a2
            replace a0 := (HBr.out.cell (World.block_lt_of_cell? _ _ a0)).trans a0
            replace a1 := (HBr.out.cell (World.block_lt_of_cell? _ _ a1)).trans a1
            replace a2 := (HBr.out.cell (World.block_lt_of_cell? _ _ a2)).trans a2
            have HA := Aside0.mk (And.intro a0 (And.intro a1 a2)); clear a0 a1 a2
            have hlc : (((y :: b).length : Nat) : Int) > 0 := by simp only [List.length_cons]; omega
            have hlz : ¬ (((y :: b).length : Nat) : Int) = 0 := by simp only [List.length_cons]; omega
            have HCd := Aside0.mk (Kd.C_drop (m := 1) HCb.out (by simp only [List.length_cons]; omega) hcb)
            generalize hbl : (y :: b).length = nb at *
            have hlb : ((nb : Int) == 0) = false := by simpa using hlz
            have HBl := Aside0.mk hbl; clear hbl
            go_wp2
            refine start_ (n := 18) (S := fun w' => True) (ds := []) #[false, false, false, false, false, false, false, false, false, false, false, false, false, false, false, false, false, false] (by kernel_rfl) rfl rfl trivial (fun hHeld => ?_); refine with_tab tab20_6 (fun HT_ => ?_)
            have HBA := Aside0.mk (below_drew1 (Below.refl wr.heap.size wr))
            generalize wr.drew = wA at HBA hHeld ⊢
            refine pure_ (i := 0) (N := some 31) (v := ?_) (a' := ?_) #[true, false, false, false, false, false, false, false, false, false, false, false, false, false, false, false, false, false] rfl rfl (any_of HT_.out (by kernel_rfl)) (fun _ _ _ h => h) (Or.inl ⟨by rfl, ?_⟩) ?_ ?_
            rotate_left
            · intro w'
              go_simp
              with_reducible rfl
            rotate_left
            · simp only [Act.put, List.setIfInBounds_toArray, List.set_cons_zero, List.set_cons_succ, i64_w, i32_w]
              rfl
            refine pure_ (i := 1) (N := some 32) (v := ?_) (a' := ?_) #[true, true, false, false, false, false, false, false, false, false, false, false, false, false, false, false, false, false] rfl rfl (any_of HT_.out (by kernel_rfl)) (fun _ _ _ h => h) (Or.inl ⟨by rfl, ?_⟩) ?_ ?_
            rotate_left
            · intro w'
              go_simp
              with_reducible rfl
            rotate_left
            · simp only [Act.put, List.setIfInBounds_toArray, List.set_cons_zero, List.set_cons_succ, i64_w, i32_w]
              rfl
            refine pure_ (i := 2) (N := some 33) (v := ?_) (a' := ?_) #[true, true, true, false, false, false, false, false, false, false, false, false, false, false, false, false, false, false] rfl rfl (any_of HT_.out (by kernel_rfl)) (fun _ _ _ h => h) (Or.inl ⟨by rfl, ?_⟩) ?_ ?_
            rotate_left
            · intro w'
              go_simp
              with_reducible rfl
            rotate_left
            · simp only [Act.put, List.setIfInBounds_toArray, List.set_cons_zero, List.set_cons_succ, i64_w, i32_w]
              rfl
            refine pure_ (i := 3) (N := some 34) (v := ?_) (a' := ?_) #[true, true, true, true, false, false, false, false, false, false, false, false, false, false, false, false, false, false] rfl rfl (any_of HT_.out (by kernel_rfl)) (fun _ _ _ h => h) (Or.inl ⟨by rfl, ?_⟩) ?_ ?_
            rotate_left
            · intro w'
              go_simp
              with_reducible rfl
            rotate_left
            · simp only [Act.put, List.setIfInBounds_toArray, List.set_cons_zero, List.set_cons_succ, i64_w, i32_w]
              rfl
            refine pure_ (i := 4) (N := some 35) (v := ?_) (a' := ?_) #[true, true, true, true, true, false, false, false, false, false, false, false, false, false, false, false, false, false] rfl rfl (any_of HT_.out (by kernel_rfl)) (fun _ _ _ h => h) (Or.inl ⟨by rfl, ?_⟩) ?_ ?_
            rotate_left
            · intro w'
              go_simp
              with_reducible rfl
            rotate_left
            · simp only [Act.put, List.setIfInBounds_toArray, List.set_cons_zero, List.set_cons_succ, i64_w, i32_w]
              rfl
            refine pure_ (i := 5) (N := some 36) (v := ?_) (a' := ?_) #[true, true, true, true, true, true, false, false, false, false, false, false, false, false, false, false, false, false] rfl rfl (any_of HT_.out (by kernel_rfl)) (fun _ _ _ h => h) (Or.inl ⟨by rfl, ?_⟩) ?_ ?_
            rotate_left
            · intro w'
              go_simp
              with_reducible rfl
            rotate_left
            · simp only [Act.put, List.setIfInBounds_toArray, List.set_cons_zero, List.set_cons_succ, i64_w, i32_w]
              rfl
            refine pure_ (i := 6) (N := some 37) (v := ?_) (a' := ?_) #[true, true, true, true, true, true, true, false, false, false, false, false, false, false, false, false, false, false] rfl rfl (any_of HT_.out (by kernel_rfl)) (fun _ _ _ h => h) (Or.inl ⟨by rfl, ?_⟩) ?_ ?_
            rotate_left
            · intro w'
              go_simp
              with_reducible rfl
            rotate_left
            · simp only [Act.put, List.setIfInBounds_toArray, List.set_cons_zero, List.set_cons_succ, i64_w, i32_w]
              rfl
            refine pure_ (i := 7) (N := some 38) (v := ?_) (a' := ?_) #[true, true, true, true, true, true, true, true, false, false, false, false, false, false, false, false, false, false] rfl rfl (any_of HT_.out (by kernel_rfl)) (fun _ _ _ h => h) (Or.inl ⟨by rfl, ?_⟩) ?_ ?_
            rotate_left
            · intro w'
              go_simp
              with_reducible rfl
            rotate_left
            · simp only [Act.put, List.setIfInBounds_toArray, List.set_cons_zero, List.set_cons_succ, i64_w, i32_w]
              rfl
            refine pure_ (i := 8) (N := some 39) (v := undef) (a' := ?_) #[true, true, true, true, true, true, true, true, true, false, false, false, false, false, false, false, false, false] rfl rfl (any_of HT_.out (by kernel_rfl)) (fun _ _ _ h => h) (Or.inr ⟨by rfl, rfl⟩) ?_ ?_
            rotate_left
            · simp only [Act.put, List.setIfInBounds_toArray, List.set_cons_zero, List.set_cons_succ, i64_w, i32_w]
              rfl
            refine pure_ (i := 9) (N := some 40) (v := undef) (a' := ?_) #[true, true, true, true, true, true, true, true, true, true, false, false, false, false, false, false, false, false] rfl rfl (any_of HT_.out (by kernel_rfl)) (fun _ _ _ h => h) (Or.inr ⟨by rfl, rfl⟩) ?_ ?_
            rotate_left
            · simp only [Act.put, List.setIfInBounds_toArray, List.set_cons_zero, List.set_cons_succ, i64_w, i32_w]
              rfl
            refine pure_ (i := 10) (N := some 41) (v := undef) (a' := ?_) #[true, true, true, true, true, true, true, true, true, true, true, false, false, false, false, false, false, false] rfl rfl (any_of HT_.out (by kernel_rfl)) (fun _ _ _ h => h) (Or.inr ⟨by rfl, rfl⟩) ?_ ?_
            rotate_left
            · simp only [Act.put, List.setIfInBounds_toArray, List.set_cons_zero, List.set_cons_succ, i64_w, i32_w]
              rfl
            refine pure_ (i := 11) (N := some 42) (v := undef) (a' := ?_) #[true, true, true, true, true, true, true, true, true, true, true, true, false, false, false, false, false, false] rfl rfl (any_of HT_.out (by kernel_rfl)) (fun _ _ _ h => h) (Or.inr ⟨by rfl, rfl⟩) ?_ ?_
            rotate_left
            · simp only [Act.put, List.setIfInBounds_toArray, List.set_cons_zero, List.set_cons_succ, i64_w, i32_w]
              rfl
            refine pure_ (i := 12) (N := some 43) (v := undef) (a' := ?_) #[true, true, true, true, true, true, true, true, true, true, true, true, true, false, false, false, false, false] rfl rfl (any_of HT_.out (by kernel_rfl)) (fun _ _ _ h => h) (Or.inr ⟨by rfl, rfl⟩) ?_ ?_
            rotate_left
            · simp only [Act.put, List.setIfInBounds_toArray, List.set_cons_zero, List.set_cons_succ, i64_w, i32_w]
              rfl
            refine pure_ (i := 13) (N := some 44) (v := undef) (a' := ?_) #[true, true, true, true, true, true, true, true, true, true, true, true, true, true, false, false, false, false] rfl rfl (any_of HT_.out (by kernel_rfl)) (fun _ _ _ h => h) (Or.inr ⟨by rfl, rfl⟩) ?_ ?_
            rotate_left
            · simp only [Act.put, List.setIfInBounds_toArray, List.set_cons_zero, List.set_cons_succ, i64_w, i32_w]
              rfl
            refine pure_ (i := 14) (N := some 45) (v := undef) (a' := ?_) #[true, true, true, true, true, true, true, true, true, true, true, true, true, true, true, false, false, false] rfl rfl (any_of HT_.out (by kernel_rfl)) (fun _ _ _ h => h) (Or.inr ⟨by rfl, rfl⟩) ?_ ?_
            rotate_left
            · simp only [Act.put, List.setIfInBounds_toArray, List.set_cons_zero, List.set_cons_succ, i64_w, i32_w]
              rfl
            refine pure_ (i := 15) (N := some 46) (v := undef) (a' := ?_) #[true, true, true, true, true, true, true, true, true, true, true, true, true, true, true, true, false, false] rfl rfl (any_of HT_.out (by kernel_rfl)) (fun _ _ _ h => h) (Or.inr ⟨by rfl, rfl⟩) ?_ ?_
            rotate_left
            · simp only [Act.put, List.setIfInBounds_toArray, List.set_cons_zero, List.set_cons_succ, i64_w, i32_w]
              rfl
            refine pure_ (i := 16) (N := some 47) (v := ?_) (a' := ?_) #[true, true, true, true, true, true, true, true, true, true, true, true, true, true, true, true, true, false] rfl rfl (any_of HT_.out (by kernel_rfl)) (fun _ _ _ h => h) (Or.inl ⟨by rfl, ?_⟩) ?_ ?_
            rotate_left
            · intro w'
              go_simp
              with_reducible rfl
            rotate_left
            · simp only [Act.put, List.setIfInBounds_toArray, List.set_cons_zero, List.set_cons_succ, i64_w, i32_w]
              rfl
            refine pure_ (i := 17) (N := some 48) (v := ?_) (a' := ?_) #[true, true, true, true, true, true, true, true, true, true, true, true, true, true, true, true, true, true] rfl rfl (any_of HT_.out (by kernel_rfl)) (fun _ _ _ h => h) (Or.inl ⟨by rfl, ?_⟩) ?_ ?_
            rotate_left
            · intro w'
              go_simp
              with_reducible rfl
            rotate_left
            · simp only [Act.put, List.setIfInBounds_toArray, List.set_cons_zero, List.set_cons_succ, i64_w, i32_w]
              rfl
            refine done_ (done_of HT_.out (by kernel_rfl)) ?_
            clear hHeld HT_
            go_wp2
            refine start_ (n := 13) (S := fun w' => True) (ds := []) #[false, false, false, false, false, false, false, false, false, false, false, false, false] (by kernel_rfl) rfl rfl trivial (fun hHeld => ?_); refine with_tab tab20_9 (fun HT_ => ?_)
            have HBB := Aside0.mk (below_step HBA.out (below_drew1 (Below.refl wA.heap.size wA)))
            generalize wA.drew = wB at HBB hHeld ⊢
            refine pure_ (i := 0) (N := some 57) (v := ?_) (a' := ?_) #[true, false, false, false, false, false, false, false, false, false, false, false, false] rfl rfl (any_of HT_.out (by kernel_rfl)) (fun _ _ _ h => h) (Or.inl ⟨by rfl, ?_⟩) ?_ ?_
            rotate_left
            · intro w'
              go_simp
              with_reducible rfl
            rotate_left
            · simp only [Act.put, List.setIfInBounds_toArray, List.set_cons_zero, List.set_cons_succ, i64_w, i32_w]
              rfl
            refine pure_ (i := 1) (N := some 58) (v := ?_) (a' := ?_) #[true, true, false, false, false, false, false, false, false, false, false, false, false] rfl rfl (any_of HT_.out (by kernel_rfl)) (fun _ _ _ h => h) (Or.inl ⟨by rfl, ?_⟩) ?_ ?_
            rotate_left
            · intro w'
              go_simp
              with_reducible rfl
            rotate_left
            · simp only [Act.put, List.setIfInBounds_toArray, List.set_cons_zero, List.set_cons_succ, i64_w, i32_w]
              rfl
            refine pure_ (i := 2) (N := some 59) (v := ?_) (a' := ?_) #[true, true, true, false, false, false, false, false, false, false, false, false, false] rfl rfl (any_of HT_.out (by kernel_rfl)) (fun _ _ _ h => h) (Or.inl ⟨by rfl, ?_⟩) ?_ ?_
            rotate_left
            · intro w'
              go_simp
              with_reducible rfl
            rotate_left
            · simp only [Act.put, List.setIfInBounds_toArray, List.set_cons_zero, List.set_cons_succ, i64_w, i32_w]
              rfl
            refine pure_ (i := 3) (N := some 60) (v := ?_) (a' := ?_) #[true, true, true, true, false, false, false, false, false, false, false, false, false] rfl rfl (any_of HT_.out (by kernel_rfl)) (fun _ _ _ h => h) (Or.inl ⟨by rfl, ?_⟩) ?_ ?_
            rotate_left
            · intro w'
              go_simp
              with_reducible rfl
            rotate_left
            · simp only [Act.put, List.setIfInBounds_toArray, List.set_cons_zero, List.set_cons_succ, i64_w, i32_w]
              rfl
            refine pure_ (i := 4) (N := some 61) (v := undef) (a' := ?_) #[true, true, true, true, true, false, false, false, false, false, false, false, false] rfl rfl (any_of HT_.out (by kernel_rfl)) (fun _ _ _ h => h) (Or.inr ⟨by rfl, rfl⟩) ?_ ?_
            rotate_left
            · simp only [Act.put, List.setIfInBounds_toArray, List.set_cons_zero, List.set_cons_succ, i64_w, i32_w]
              rfl
            refine pure_ (i := 5) (N := some 62) (v := undef) (a' := ?_) #[true, true, true, true, true, true, false, false, false, false, false, false, false] rfl rfl (any_of HT_.out (by kernel_rfl)) (fun _ _ _ h => h) (Or.inr ⟨by rfl, rfl⟩) ?_ ?_
            rotate_left
            · simp only [Act.put, List.setIfInBounds_toArray, List.set_cons_zero, List.set_cons_succ, i64_w, i32_w]
              rfl
            refine pure_ (i := 6) (N := some 63) (v := undef) (a' := ?_) #[true, true, true, true, true, true, true, false, false, false, false, false, false] rfl rfl (any_of HT_.out (by kernel_rfl)) (fun _ _ _ h => h) (Or.inr ⟨by rfl, rfl⟩) ?_ ?_
            rotate_left
            · simp only [Act.put, List.setIfInBounds_toArray, List.set_cons_zero, List.set_cons_succ, i64_w, i32_w]
              rfl
            refine pure_ (i := 7) (N := some 64) (v := undef) (a' := ?_) #[true, true, true, true, true, true, true, true, false, false, false, false, false] rfl rfl (any_of HT_.out (by kernel_rfl)) (fun _ _ _ h => h) (Or.inr ⟨by rfl, rfl⟩) ?_ ?_
            rotate_left
            · simp only [Act.put, List.setIfInBounds_toArray, List.set_cons_zero, List.set_cons_succ, i64_w, i32_w]
              rfl
            refine pure_ (i := 8) (N := some 65) (v := undef) (a' := ?_) #[true, true, true, true, true, true, true, true, true, false, false, false, false] rfl rfl (any_of HT_.out (by kernel_rfl)) (fun _ _ _ h => h) (Or.inr ⟨by rfl, rfl⟩) ?_ ?_
            rotate_left
            · simp only [Act.put, List.setIfInBounds_toArray, List.set_cons_zero, List.set_cons_succ, i64_w, i32_w]
              rfl
            refine pure_ (i := 9) (N := some 66) (v := undef) (a' := ?_) #[true, true, true, true, true, true, true, true, true, true, false, false, false] rfl rfl (any_of HT_.out (by kernel_rfl)) (fun _ _ _ h => h) (Or.inr ⟨by rfl, rfl⟩) ?_ ?_
            rotate_left
            · simp only [Act.put, List.setIfInBounds_toArray, List.set_cons_zero, List.set_cons_succ, i64_w, i32_w]
              rfl
            refine pure_ (i := 10) (N := some 67) (v := undef) (a' := ?_) #[true, true, true, true, true, true, true, true, true, true, true, false, false] rfl rfl (any_of HT_.out (by kernel_rfl)) (fun _ _ _ h => h) (Or.inr ⟨by rfl, rfl⟩) ?_ ?_
            rotate_left
            · simp only [Act.put, List.setIfInBounds_toArray, List.set_cons_zero, List.set_cons_succ, i64_w, i32_w]
              rfl
            refine pure_ (i := 11) (N := some 68) (v := undef) (a' := ?_) #[true, true, true, true, true, true, true, true, true, true, true, true, false] rfl rfl (any_of HT_.out (by kernel_rfl)) (fun _ _ _ h => h) (Or.inr ⟨by rfl, rfl⟩) ?_ ?_
            rotate_left
            · simp only [Act.put, List.setIfInBounds_toArray, List.set_cons_zero, List.set_cons_succ, i64_w, i32_w]
              rfl
            refine pure_ (i := 12) (N := some 69) (v := ?_) (a' := ?_) #[true, true, true, true, true, true, true, true, true, true, true, true, true] rfl rfl (any_of HT_.out (by kernel_rfl)) (fun _ _ _ h => h) (Or.inl ⟨by rfl, ?_⟩) ?_ ?_
            rotate_left
            · intro w'
              go_simp
              with_reducible rfl
            rotate_left
            · simp only [Act.put, List.setIfInBounds_toArray, List.set_cons_zero, List.set_cons_succ, i64_w, i32_w]
              rfl
            refine done_ (done_of HT_.out (by kernel_rfl)) ?_
            clear hHeld HT_
            have a0 := (HBB.out.cell (World.block_lt_of_cell? _ _ HA.out.1)).trans HA.out.1; have a1 := (HBB.out.cell (World.block_lt_of_cell? _ _ HA.out.2.1)).trans HA.out.2.1; have a2 := (HBB.out.cell (World.block_lt_of_cell? _ _ HA.out.2.2)).trans HA.out.2.2
            by_cases hc1 : cb = 1
            · have HCd2 := Aside0.mk (show Kd.C k37 w4 _ b.length b by have := HCd.out; rw [if_pos hc1] at this; exact this)
              have hnb : nb - 1 = b.length := by have := HBl.out; simp only [List.length_cons] at this; omega
              have hcn : nb ≤ cb := hcb
              have hn1 : 1 ≤ nb := by have := HBl.out; simp only [List.length_cons] at this; omega
              have hc0 : cb - 1 = 0 := by omega
              have HOB := Aside0.mk (Kd.R_below HO.out HBB.out)
              have HWB := Aside0.mk (below_step HBr.out HBB.out)
              have hzb := HWB.out.size
              have hol : (o.length + 1) * 32 ≤ 140737488355328 := by have h1 := HLen.out; omega
              have HOL := Aside0.mk hol; clear hol
              go_wp2_with ((with_reducible refine gate_builtin (b := .append) (xs := #[.tmp 72, .tmp 76]) rfl ?_); at_builtin; refine app37 (w0 := w4) (base := w4.heap.size) (ok := fun _ => True) rfl (.tmp 72) (.tmp 76) rfl _ o y rfl rfl rfl (fun _ _ => trivial) HOB.out HWB.out hzb HOL.out ?_; intro v9 w9 ho9 hb9 hg9; have HO9 := Aside0.mk ho9; have HB9 := Aside0.mk hb9; clear ho9 hb9 hg9)
              go_roundg b.length
              case measure => have := HM.out; simp only [List.length_nil] at this; omega
              case rel => exact ⟨[], b, o ++ [y], Aa, _, ca, _, rfl, rfl, hca, by omega, ⟨by simp⟩, ⟨by have := HLen.out; simp only [List.length_append, List.length_cons, List.length_nil] at *; omega⟩, ⟨by have := HEq.out; rw [show mergeP [] (y :: b) = y :: mergeP [] b by conv => lhs; unfold mergeP] at this; simpa using this⟩, ⟨HCa.out⟩, ⟨HCd2.out⟩, ⟨HO9.out⟩, ⟨HB9.out⟩⟩
            · have HCd2 := Aside0.mk (show Kd.C k37 w4 _ b.length b by have := HCd.out; rw [if_neg hc1] at this; exact this)
              have hnb : nb - 1 = b.length := by have := HBl.out; simp only [List.length_cons] at this; omega
              have hcn : nb ≤ cb := hcb
              have hn1 : 1 ≤ nb := by have := HBl.out; simp only [List.length_cons] at this; omega
              have hc0 : ¬ cb - 1 = 0 := by omega
              have HOB := Aside0.mk (Kd.R_below HO.out HBB.out)
              have HWB := Aside0.mk (below_step HBr.out HBB.out)
              have hzb := HWB.out.size
              have hol : (o.length + 1) * 32 ≤ 140737488355328 := by have h1 := HLen.out; omega
              have HOL := Aside0.mk hol; clear hol
              go_wp2_with ((with_reducible refine gate_builtin (b := .append) (xs := #[.tmp 72, .tmp 76]) rfl ?_); at_builtin; refine app37 (w0 := w4) (base := w4.heap.size) (ok := fun _ => True) rfl (.tmp 72) (.tmp 76) rfl _ o y rfl rfl rfl (fun _ _ => trivial) HOB.out HWB.out hzb HOL.out ?_; intro v9 w9 ho9 hb9 hg9; have HO9 := Aside0.mk ho9; have HB9 := Aside0.mk hb9; clear ho9 hb9 hg9)
              go_roundg b.length
              case measure => have := HM.out; simp only [List.length_nil] at this; omega
              case rel => exact ⟨[], b, o ++ [y], Aa, _, ca, _, rfl, rfl, hca, by omega, ⟨by simp⟩, ⟨by have := HLen.out; simp only [List.length_append, List.length_cons, List.length_nil] at *; omega⟩, ⟨by have := HEq.out; rw [show mergeP [] (y :: b) = y :: mergeP [] b by conv => lhs; unfold mergeP] at this; simpa using this⟩, ⟨HCa.out⟩, ⟨HCd2.out⟩, ⟨HO9.out⟩, ⟨HB9.out⟩⟩
        | cons x a =>
          cases b with
          | nil =>
            obtain ⟨ad, ea, a0, a1, a2⟩ := at_T37 HCa.out 0 (by decide) (by simp only [List.length_cons]; omega)
            subst ea
            rw [show rd_T37 (x :: a) 0 = x from rfl] at a0 a1 a2
            simp only [Int.toNat_zero, Nat.zero_mul, add_zero_] at a0 a1 a2
            replace a0 := (HBr.out.cell (World.block_lt_of_cell? _ _ a0)).trans a0
            replace a1 := (HBr.out.cell (World.block_lt_of_cell? _ _ a1)).trans a1
            replace a2 := (HBr.out.cell (World.block_lt_of_cell? _ _ a2)).trans a2
            have HA := Aside0.mk (And.intro a0 (And.intro a1 a2)); clear a0 a1 a2
            have hlc : (((x :: a).length : Nat) : Int) > 0 := by simp only [List.length_cons]; omega
            have HCd := Aside0.mk (Kd.C_drop (m := 1) HCa.out (by simp only [List.length_cons]; omega) hca)
            generalize hbl : (x :: a).length = nb at *
            have HBl := Aside0.mk hbl; clear hbl
            go_wp2
            refine start_ (n := 18) (S := fun w' => True) (ds := []) #[false, false, false, false, false, false, false, false, false, false, false, false, false, false, false, false, false, false] (by kernel_rfl) rfl rfl trivial (fun hHeld => ?_); refine with_tab tab20_6 (fun HT_ => ?_)
            have HBB := Aside0.mk (below_drew1 (Below.refl wr.heap.size wr))
            generalize wr.drew = wB at HBB hHeld ⊢
            refine pure_ (i := 0) (N := some 31) (v := ?_) (a' := ?_) #[true, false, false, false, false, false, false, false, false, false, false, false, false, false, false, false, false, false] rfl rfl (any_of HT_.out (by kernel_rfl)) (fun _ _ _ h => h) (Or.inl ⟨by rfl, ?_⟩) ?_ ?_
            rotate_left
            · intro w'
              go_simp
              with_reducible rfl
            rotate_left
            · simp only [Act.put, List.setIfInBounds_toArray, List.set_cons_zero, List.set_cons_succ, i64_w, i32_w]
              rfl
            refine pure_ (i := 1) (N := some 32) (v := ?_) (a' := ?_) #[true, true, false, false, false, false, false, false, false, false, false, false, false, false, false, false, false, false] rfl rfl (any_of HT_.out (by kernel_rfl)) (fun _ _ _ h => h) (Or.inl ⟨by rfl, ?_⟩) ?_ ?_
            rotate_left
            · intro w'
              go_simp
              with_reducible rfl
            rotate_left
            · simp only [Act.put, List.setIfInBounds_toArray, List.set_cons_zero, List.set_cons_succ, i64_w, i32_w]
              rfl
            refine pure_ (i := 2) (N := some 33) (v := ?_) (a' := ?_) #[true, true, true, false, false, false, false, false, false, false, false, false, false, false, false, false, false, false] rfl rfl (any_of HT_.out (by kernel_rfl)) (fun _ _ _ h => h) (Or.inl ⟨by rfl, ?_⟩) ?_ ?_
            rotate_left
            · intro w'
              go_simp
              with_reducible rfl
            rotate_left
            · simp only [Act.put, List.setIfInBounds_toArray, List.set_cons_zero, List.set_cons_succ, i64_w, i32_w]
              rfl
            refine pure_ (i := 3) (N := some 34) (v := ?_) (a' := ?_) #[true, true, true, true, false, false, false, false, false, false, false, false, false, false, false, false, false, false] rfl rfl (any_of HT_.out (by kernel_rfl)) (fun _ _ _ h => h) (Or.inl ⟨by rfl, ?_⟩) ?_ ?_
            rotate_left
            · intro w'
              go_simp
              with_reducible rfl
            rotate_left
            · simp only [Act.put, List.setIfInBounds_toArray, List.set_cons_zero, List.set_cons_succ, i64_w, i32_w]
              rfl
            refine pure_ (i := 4) (N := some 35) (v := undef) (a' := ?_) #[true, true, true, true, true, false, false, false, false, false, false, false, false, false, false, false, false, false] rfl rfl (any_of HT_.out (by kernel_rfl)) (fun _ _ _ h => h) (Or.inr ⟨by rfl, rfl⟩) ?_ ?_
            rotate_left
            · simp only [Act.put, List.setIfInBounds_toArray, List.set_cons_zero, List.set_cons_succ, i64_w, i32_w]
              rfl
            refine pure_ (i := 5) (N := some 36) (v := undef) (a' := ?_) #[true, true, true, true, true, true, false, false, false, false, false, false, false, false, false, false, false, false] rfl rfl (any_of HT_.out (by kernel_rfl)) (fun _ _ _ h => h) (Or.inr ⟨by rfl, rfl⟩) ?_ ?_
            rotate_left
            · simp only [Act.put, List.setIfInBounds_toArray, List.set_cons_zero, List.set_cons_succ, i64_w, i32_w]
              rfl
            refine pure_ (i := 6) (N := some 37) (v := undef) (a' := ?_) #[true, true, true, true, true, true, true, false, false, false, false, false, false, false, false, false, false, false] rfl rfl (any_of HT_.out (by kernel_rfl)) (fun _ _ _ h => h) (Or.inr ⟨by rfl, rfl⟩) ?_ ?_
            rotate_left
            · simp only [Act.put, List.setIfInBounds_toArray, List.set_cons_zero, List.set_cons_succ, i64_w, i32_w]
              rfl
            refine pure_ (i := 7) (N := some 38) (v := undef) (a' := ?_) #[true, true, true, true, true, true, true, true, false, false, false, false, false, false, false, false, false, false] rfl rfl (any_of HT_.out (by kernel_rfl)) (fun _ _ _ h => h) (Or.inr ⟨by rfl, rfl⟩) ?_ ?_
            rotate_left
            · simp only [Act.put, List.setIfInBounds_toArray, List.set_cons_zero, List.set_cons_succ, i64_w, i32_w]
              rfl
            refine pure_ (i := 8) (N := some 39) (v := undef) (a' := ?_) #[true, true, true, true, true, true, true, true, true, false, false, false, false, false, false, false, false, false] rfl rfl (any_of HT_.out (by kernel_rfl)) (fun _ _ _ h => h) (Or.inr ⟨by rfl, rfl⟩) ?_ ?_
            rotate_left
            · simp only [Act.put, List.setIfInBounds_toArray, List.set_cons_zero, List.set_cons_succ, i64_w, i32_w]
              rfl
            refine pure_ (i := 9) (N := some 40) (v := undef) (a' := ?_) #[true, true, true, true, true, true, true, true, true, true, false, false, false, false, false, false, false, false] rfl rfl (any_of HT_.out (by kernel_rfl)) (fun _ _ _ h => h) (Or.inr ⟨by rfl, rfl⟩) ?_ ?_
            rotate_left
            · simp only [Act.put, List.setIfInBounds_toArray, List.set_cons_zero, List.set_cons_succ, i64_w, i32_w]
              rfl
            refine pure_ (i := 10) (N := some 41) (v := undef) (a' := ?_) #[true, true, true, true, true, true, true, true, true, true, true, false, false, false, false, false, false, false] rfl rfl (any_of HT_.out (by kernel_rfl)) (fun _ _ _ h => h) (Or.inr ⟨by rfl, rfl⟩) ?_ ?_
            rotate_left
            · simp only [Act.put, List.setIfInBounds_toArray, List.set_cons_zero, List.set_cons_succ, i64_w, i32_w]
              rfl
            refine pure_ (i := 11) (N := some 42) (v := undef) (a' := ?_) #[true, true, true, true, true, true, true, true, true, true, true, true, false, false, false, false, false, false] rfl rfl (any_of HT_.out (by kernel_rfl)) (fun _ _ _ h => h) (Or.inr ⟨by rfl, rfl⟩) ?_ ?_
            rotate_left
            · simp only [Act.put, List.setIfInBounds_toArray, List.set_cons_zero, List.set_cons_succ, i64_w, i32_w]
              rfl
            refine pure_ (i := 12) (N := some 43) (v := undef) (a' := ?_) #[true, true, true, true, true, true, true, true, true, true, true, true, true, false, false, false, false, false] rfl rfl (any_of HT_.out (by kernel_rfl)) (fun _ _ _ h => h) (Or.inr ⟨by rfl, rfl⟩) ?_ ?_
            rotate_left
            · simp only [Act.put, List.setIfInBounds_toArray, List.set_cons_zero, List.set_cons_succ, i64_w, i32_w]
              rfl
            refine pure_ (i := 13) (N := some 44) (v := undef) (a' := ?_) #[true, true, true, true, true, true, true, true, true, true, true, true, true, true, false, false, false, false] rfl rfl (any_of HT_.out (by kernel_rfl)) (fun _ _ _ h => h) (Or.inr ⟨by rfl, rfl⟩) ?_ ?_
            rotate_left
            · simp only [Act.put, List.setIfInBounds_toArray, List.set_cons_zero, List.set_cons_succ, i64_w, i32_w]
              rfl
            refine pure_ (i := 14) (N := some 45) (v := undef) (a' := ?_) #[true, true, true, true, true, true, true, true, true, true, true, true, true, true, true, false, false, false] rfl rfl (any_of HT_.out (by kernel_rfl)) (fun _ _ _ h => h) (Or.inr ⟨by rfl, rfl⟩) ?_ ?_
            rotate_left
            · simp only [Act.put, List.setIfInBounds_toArray, List.set_cons_zero, List.set_cons_succ, i64_w, i32_w]
              rfl
            refine pure_ (i := 15) (N := some 46) (v := undef) (a' := ?_) #[true, true, true, true, true, true, true, true, true, true, true, true, true, true, true, true, false, false] rfl rfl (any_of HT_.out (by kernel_rfl)) (fun _ _ _ h => h) (Or.inr ⟨by rfl, rfl⟩) ?_ ?_
            rotate_left
            · simp only [Act.put, List.setIfInBounds_toArray, List.set_cons_zero, List.set_cons_succ, i64_w, i32_w]
              rfl
            refine pure_ (i := 16) (N := some 47) (v := undef) (a' := ?_) #[true, true, true, true, true, true, true, true, true, true, true, true, true, true, true, true, true, false] rfl rfl (any_of HT_.out (by kernel_rfl)) (fun _ _ _ h => h) (Or.inr ⟨by rfl, rfl⟩) ?_ ?_
            rotate_left
            · simp only [Act.put, List.setIfInBounds_toArray, List.set_cons_zero, List.set_cons_succ, i64_w, i32_w]
              rfl
            refine pure_ (i := 17) (N := some 48) (v := ?_) (a' := ?_) #[true, true, true, true, true, true, true, true, true, true, true, true, true, true, true, true, true, true] rfl rfl (any_of HT_.out (by kernel_rfl)) (fun _ _ _ h => h) (Or.inl ⟨by rfl, ?_⟩) ?_ ?_
            rotate_left
            · intro w'
              go_simp
              with_reducible rfl
            rotate_left
            · simp only [Act.put, List.setIfInBounds_toArray, List.set_cons_zero, List.set_cons_succ, i64_w, i32_w]
              rfl
            refine done_ (done_of HT_.out (by kernel_rfl)) ?_
            clear hHeld HT_
            have a0 := (HBB.out.cell (World.block_lt_of_cell? _ _ HA.out.1)).trans HA.out.1; have a1 := (HBB.out.cell (World.block_lt_of_cell? _ _ HA.out.2.1)).trans HA.out.2.1; have a2 := (HBB.out.cell (World.block_lt_of_cell? _ _ HA.out.2.2)).trans HA.out.2.2
            by_cases hc1 : ca = 1
            · have HCd2 := Aside0.mk (show Kd.C k37 w4 _ a.length a by have := HCd.out; rw [if_pos hc1] at this; exact this)
              have hnb : nb - 1 = a.length := by have := HBl.out; simp only [List.length_cons] at this; omega
              have hcn : nb ≤ ca := hca
              have hn1 : 1 ≤ nb := by have := HBl.out; simp only [List.length_cons] at this; omega
              have hc0 : ca - 1 = 0 := by omega
              have HOB := Aside0.mk (Kd.R_below HO.out HBB.out)
              have HWB := Aside0.mk (below_step HBr.out HBB.out)
              have hzb := HWB.out.size
              have hol : (o.length + 1) * 32 ≤ 140737488355328 := by have h1 := HLen.out; omega
              have HOL := Aside0.mk hol; clear hol
              go_wp2_with ((with_reducible refine gate_builtin (b := .append) (xs := #[.tmp 49, .tmp 53]) rfl ?_); at_builtin; refine app37 (w0 := w4) (base := w4.heap.size) (ok := fun _ => True) rfl (.tmp 49) (.tmp 53) rfl _ o x rfl rfl rfl (fun _ _ => trivial) HOB.out HWB.out hzb HOL.out ?_; intro v9 w9 ho9 hb9 hg9; have HO9 := Aside0.mk ho9; have HB9 := Aside0.mk hb9; clear ho9 hb9 hg9)
              go_roundg a.length
              case measure => have := HM.out; simp only [List.length_nil] at this; omega
              case rel => exact ⟨a, [], o ++ [x], _, Ab, _, cb, rfl, rfl, by omega, hcb, ⟨by simp⟩, ⟨by have := HLen.out; simp only [List.length_append, List.length_cons, List.length_nil] at *; omega⟩, ⟨by have := HEq.out; rw [show mergeP (x :: a) [] = x :: mergeP a [] by conv => lhs; unfold mergeP] at this; simpa using this⟩, ⟨HCd2.out⟩, ⟨HCb.out⟩, ⟨HO9.out⟩, ⟨HB9.out⟩⟩
            · have HCd2 := Aside0.mk (show Kd.C k37 w4 _ a.length a by have := HCd.out; rw [if_neg hc1] at this; exact this)
              have hnb : nb - 1 = a.length := by have := HBl.out; simp only [List.length_cons] at this; omega
              have hcn : nb ≤ ca := hca
              have hn1 : 1 ≤ nb := by have := HBl.out; simp only [List.length_cons] at this; omega
              have hc0 : ¬ ca - 1 = 0 := by omega
              have HOB := Aside0.mk (Kd.R_below HO.out HBB.out)
              have HWB := Aside0.mk (below_step HBr.out HBB.out)
              have hzb := HWB.out.size
              have hol : (o.length + 1) * 32 ≤ 140737488355328 := by have h1 := HLen.out; omega
              have HOL := Aside0.mk hol; clear hol
              go_wp2_with ((with_reducible refine gate_builtin (b := .append) (xs := #[.tmp 49, .tmp 53]) rfl ?_); at_builtin; refine app37 (w0 := w4) (base := w4.heap.size) (ok := fun _ => True) rfl (.tmp 49) (.tmp 53) rfl _ o x rfl rfl rfl (fun _ _ => trivial) HOB.out HWB.out hzb HOL.out ?_; intro v9 w9 ho9 hb9 hg9; have HO9 := Aside0.mk ho9; have HB9 := Aside0.mk hb9; clear ho9 hb9 hg9)
              go_roundg a.length
              case measure => have := HM.out; simp only [List.length_nil] at this; omega
              case rel => exact ⟨a, [], o ++ [x], _, Ab, _, cb, rfl, rfl, by omega, hcb, ⟨by simp⟩, ⟨by have := HLen.out; simp only [List.length_append, List.length_cons, List.length_nil] at *; omega⟩, ⟨by have := HEq.out; rw [show mergeP (x :: a) [] = x :: mergeP a [] by conv => lhs; unfold mergeP] at this; simpa using this⟩, ⟨HCd2.out⟩, ⟨HCb.out⟩, ⟨HO9.out⟩, ⟨HB9.out⟩⟩
          | cons y b =>
            obtain ⟨adx, ea, x0, x1, x2⟩ := at_T37 HCa.out 0 (by decide) (by simp only [List.length_cons]; omega)
            subst ea
            rw [show rd_T37 (x :: a) 0 = x from rfl] at x0 x1 x2
            simp only [Int.toNat_zero, Nat.zero_mul, add_zero_] at x0 x1 x2
            replace x0 := (HBr.out.cell (World.block_lt_of_cell? _ _ x0)).trans x0
            replace x1 := (HBr.out.cell (World.block_lt_of_cell? _ _ x1)).trans x1
            replace x2 := (HBr.out.cell (World.block_lt_of_cell? _ _ x2)).trans x2
            obtain ⟨ady, ea, y0, y1, y2⟩ := at_T37 HCb.out 0 (by decide) (by simp only [List.length_cons]; omega)
            subst ea
            rw [show rd_T37 (y :: b) 0 = y from rfl] at y0 y1 y2
            simp only [Int.toNat_zero, Nat.zero_mul, add_zero_] at y0 y1 y2
            replace y0 := (HBr.out.cell (World.block_lt_of_cell? _ _ y0)).trans y0
            replace y1 := (HBr.out.cell (World.block_lt_of_cell? _ _ y1)).trans y1
            replace y2 := (HBr.out.cell (World.block_lt_of_cell? _ _ y2)).trans y2
            have HA := Aside0.mk (show _ ∧ _ ∧ _ ∧ _ ∧ _ ∧ _ from ⟨x0, x1, x2, y0, y1, y2⟩); clear x0 x1 x2 y0 y1 y2
            have hlc : (((x :: a).length : Nat) : Int) > 0 := by simp only [List.length_cons]; omega
            have hld : (((y :: b).length : Nat) : Int) > 0 := by simp only [List.length_cons]; omega
            have hlz : ¬ (((y :: b).length : Nat) : Int) = 0 := by simp only [List.length_cons]; omega
            have HCda := Aside0.mk (Kd.C_drop (m := 1) HCa.out (by simp only [List.length_cons]; omega) hca)
            have HCdb := Aside0.mk (Kd.C_drop (m := 1) HCb.out (by simp only [List.length_cons]; omega) hcb)
            generalize hbl : (x :: a).length = na at *
            have HBl := Aside0.mk hbl; clear hbl
            generalize hbl : (y :: b).length = nb at *
            have HBm := Aside0.mk hbl; clear hbl
            have hlb : ((nb : Int) == 0) = false := by simpa using hlz
            have hq0 : 0 < na := by omega
            have hq1 : 0 < nb := by omega
            go_wp2
            refine start_ (n := 18) (S := fun w' => w'.cell? adx = some (.int .i64 x.f0) ∧ w'.cell? ⟨adx.block, adx.off + 1, none⟩ = some (.int .i64 x.f1) ∧ w'.cell? ⟨adx.block, adx.off + 2, none⟩ = some (.string x.f2) ∧ w'.cell? ady = some (.int .i64 y.f0) ∧ w'.cell? ⟨ady.block, ady.off + 1, none⟩ = some (.int .i64 y.f1) ∧ w'.cell? ⟨ady.block, ady.off + 2, none⟩ = some (.string y.f2)) (ds := []) #[false, false, false, false, false, false, false, false, false, false, false, false, false, false, false, false, false, false] (by kernel_rfl) rfl rfl HA.out (fun hHeld => ?_); refine with_tab tab20_6 (fun HT_ => ?_)
            have HBA := Aside0.mk (below_drew1 (Below.refl wr.heap.size wr))
            generalize wr.drew = wA at HBA hHeld ⊢
            refine pure_ (i := 0) (N := some 31) (v := ?_) (a' := ?_) #[true, false, false, false, false, false, false, false, false, false, false, false, false, false, false, false, false, false] rfl rfl (any_of HT_.out (by kernel_rfl)) (fun _ _ _ h => h) (Or.inl ⟨by rfl, ?_⟩) ?_ ?_
            rotate_left
            · intro w'
              go_simp
              with_reducible rfl
            rotate_left
            · simp only [Act.put, List.setIfInBounds_toArray, List.set_cons_zero, List.set_cons_succ, i64_w, i32_w]
              rfl
            refine pure_ (i := 1) (N := some 32) (v := ?_) (a' := ?_) #[true, true, false, false, false, false, false, false, false, false, false, false, false, false, false, false, false, false] rfl rfl (any_of HT_.out (by kernel_rfl)) (fun _ _ _ h => h) (Or.inl ⟨by rfl, ?_⟩) ?_ ?_
            rotate_left
            · intro w'
              go_simp
              with_reducible rfl
            rotate_left
            · simp only [Act.put, List.setIfInBounds_toArray, List.set_cons_zero, List.set_cons_succ, i64_w, i32_w]
              rfl
            refine pure_ (i := 2) (N := some 33) (v := ?_) (a' := ?_) #[true, true, true, false, false, false, false, false, false, false, false, false, false, false, false, false, false, false] rfl rfl (any_of HT_.out (by kernel_rfl)) (fun _ _ _ h => h) (Or.inl ⟨by rfl, ?_⟩) ?_ ?_
            rotate_left
            · intro w'
              go_simp
              with_reducible rfl
            rotate_left
            · simp only [Act.put, List.setIfInBounds_toArray, List.set_cons_zero, List.set_cons_succ, i64_w, i32_w]
              rfl
            refine pure_ (i := 3) (N := some 34) (v := ?_) (a' := ?_) #[true, true, true, true, false, false, false, false, false, false, false, false, false, false, false, false, false, false] rfl rfl (any_of HT_.out (by kernel_rfl)) (fun _ _ _ h => h) (Or.inl ⟨by rfl, ?_⟩) ?_ ?_
            rotate_left
            · intro w'
              go_simp
              with_reducible rfl
            rotate_left
            · simp only [Act.put, List.setIfInBounds_toArray, List.set_cons_zero, List.set_cons_succ, i64_w, i32_w]
              rfl
            refine pure_ (i := 4) (N := some 35) (v := ?_) (a' := ?_) #[true, true, true, true, true, false, false, false, false, false, false, false, false, false, false, false, false, false] rfl rfl (any_of HT_.out (by kernel_rfl)) (fun _ _ _ h => h) (Or.inl ⟨by rfl, ?_⟩) ?_ ?_
            rotate_left
            · intro w'
              go_simp
              with_reducible rfl
            rotate_left
            · simp only [Act.put, List.setIfInBounds_toArray, List.set_cons_zero, List.set_cons_succ, i64_w, i32_w]
              rfl
            refine pure_ (i := 5) (N := some 36) (v := ?_) (a' := ?_) #[true, true, true, true, true, true, false, false, false, false, false, false, false, false, false, false, false, false] rfl rfl (any_of HT_.out (by kernel_rfl)) (fun _ _ _ h => h) (Or.inl ⟨by rfl, ?_⟩) ?_ ?_
            rotate_left
            · intro w'
              go_simp
              with_reducible rfl
            rotate_left
            · simp only [Act.put, List.setIfInBounds_toArray, List.set_cons_zero, List.set_cons_succ, i64_w, i32_w]
              rfl
            refine pure_ (i := 6) (N := some 37) (v := ?_) (a' := ?_) #[true, true, true, true, true, true, true, false, false, false, false, false, false, false, false, false, false, false] rfl rfl (any_of HT_.out (by kernel_rfl)) (fun _ _ _ h => h) (Or.inl ⟨by rfl, ?_⟩) ?_ ?_
            rotate_left
            · intro w'
              go_simp
              with_reducible rfl
            rotate_left
            · simp only [Act.put, List.setIfInBounds_toArray, List.set_cons_zero, List.set_cons_succ, i64_w, i32_w]
              rfl
            refine pure_ (i := 7) (N := some 38) (v := ?_) (a' := ?_) #[true, true, true, true, true, true, true, true, false, false, false, false, false, false, false, false, false, false] rfl rfl (any_of HT_.out (by kernel_rfl)) (fun _ _ _ h => h) (Or.inl ⟨by rfl, ?_⟩) ?_ ?_
            rotate_left
            · intro w'
              go_simp
              with_reducible rfl
            rotate_left
            · simp only [Act.put, List.setIfInBounds_toArray, List.set_cons_zero, List.set_cons_succ, i64_w, i32_w]
              rfl
            refine pure_ (i := 8) (N := some 39) (v := ?_) (a' := ?_) #[true, true, true, true, true, true, true, true, true, false, false, false, false, false, false, false, false, false] rfl rfl (any_of HT_.out (by kernel_rfl)) (fun _ _ _ h => h) (Or.inl ⟨by rfl, ?_⟩) ?_ ?_
            rotate_left
            · intro w'
              go_simp
              with_reducible rfl
            rotate_left
            · simp only [Act.put, List.setIfInBounds_toArray, List.set_cons_zero, List.set_cons_succ, i64_w, i32_w]
              rfl
            refine pure_ (i := 9) (N := some 40) (v := ?_) (a' := ?_) #[true, true, true, true, true, true, true, true, true, true, false, false, false, false, false, false, false, false] rfl rfl (any_of HT_.out (by kernel_rfl)) (fun _ _ _ h => h) (Or.inl ⟨by rfl, ?_⟩) ?_ ?_
            rotate_left
            · intro w'
              go_simp
              with_reducible rfl
            rotate_left
            · simp only [Act.put, List.setIfInBounds_toArray, List.set_cons_zero, List.set_cons_succ, i64_w, i32_w]
              rfl
            refine pure_ (i := 11) (N := some 42) (v := ?_) (a' := ?_) #[true, true, true, true, true, true, true, true, true, true, false, true, false, false, false, false, false, false] rfl rfl (any_of HT_.out (by kernel_rfl)) (fun _ _ _ h => h) (Or.inl ⟨by rfl, ?_⟩) ?_ ?_
            rotate_left
            · intro w'
              go_simp
              with_reducible rfl
            rotate_left
            · simp only [Act.put, List.setIfInBounds_toArray, List.set_cons_zero, List.set_cons_succ, i64_w, i32_w]
              rfl
            refine pure_ (i := 12) (N := some 43) (v := ?_) (a' := ?_) #[true, true, true, true, true, true, true, true, true, true, false, true, true, false, false, false, false, false] rfl rfl (any_of HT_.out (by kernel_rfl)) (fun _ _ _ h => h) (Or.inl ⟨by rfl, ?_⟩) ?_ ?_
            rotate_left
            · intro w'
              go_simp
              with_reducible rfl
            rotate_left
            · simp only [Act.put, List.setIfInBounds_toArray, List.set_cons_zero, List.set_cons_succ, i64_w, i32_w]
              rfl
            refine take_ (i := 10) (N := some 41) (v := ?_) (a' := ?_) #[true, true, true, true, true, true, true, true, true, true, true, true, true, false, false, false, false, false] rfl rfl (take_of HT_.out (by kernel_rfl)) (fun _ _ _ h => h) (Or.inl ⟨by rfl, ?_⟩) hHeld ?_ ?_
            rotate_left
            · rintro w' ⟨s0, s1, s2, s3, s4, s5⟩
              go_simp
              with_reducible rfl
            rotate_left
            · simp only [Act.put, List.setIfInBounds_toArray, List.set_cons_zero, List.set_cons_succ, i64_w, i32_w]
              rfl
            refine take_ (i := 13) (N := some 44) (v := ?_) (a' := ?_) #[true, true, true, true, true, true, true, true, true, true, true, true, true, true, false, false, false, false] rfl rfl (take_of HT_.out (by kernel_rfl)) (fun _ _ _ h => h) (Or.inl ⟨by rfl, ?_⟩) hHeld ?_ ?_
            rotate_left
            · rintro w' ⟨s0, s1, s2, s3, s4, s5⟩
              go_simp
              with_reducible rfl
            rotate_left
            · simp only [Act.put, List.setIfInBounds_toArray, List.set_cons_zero, List.set_cons_succ, i64_w, i32_w]
              rfl
            refine one_ (i := 14) (N := some 45) #[true, true, true, true, true, true, true, true, true, true, true, true, true, true, true, false, false, false] rfl rfl (one_of HT_.out (by kernel_rfl)) (by decide) (fun K hK => ?_)
            refine goes_ Tryz.func78 (by kernel_rfl) rfl #[pv x, pv y] (by rfl) rfl rfl (by (try simp only [List.map_toArray, List.map_cons, List.map_nil]); first | done | rfl) ?_
            refine (vellumref17_Cmp.calls _ _ _ _ _ _ _ wA (cmp_eq x y)).mono ?_
            rintro e wC ⟨rfl, hb⟩
            refine ⟨_, rfl, ?_⟩
            have HBC := Aside0.mk (below_step HBA.out hb); clear hb
            have hcl := fun (p : Addr) (u : Value) (h : wr.cell? p = some u) => (HBC.out.cell (World.block_lt_of_cell? _ _ h)).trans h
            have hHn : _ ∧ _ ∧ _ ∧ _ ∧ _ ∧ _ := ⟨hcl _ _ HA.out.1, hcl _ _ HA.out.2.1, hcl _ _ HA.out.2.2.1, hcl _ _ HA.out.2.2.2.1, hcl _ _ HA.out.2.2.2.2.1, hcl _ _ HA.out.2.2.2.2.2⟩
            refine hK.out _ _ hHn (fun hHeld2 => ?_)
            clear hK K
            refine norm_ (a' := ?_) ?_ ?_
            rotate_left
            · show Act.put _ (some 45) _ = _
              simp only [Act.put, List.setIfInBounds_toArray, List.set_cons_zero, List.set_cons_succ, i64_w, i32_w]
              rfl
            refine pure_ (i := 15) (N := some 46) (v := ?_) (a' := ?_) #[true, true, true, true, true, true, true, true, true, true, true, true, true, true, true, true, false, false] rfl rfl (any_of HT_.out (by kernel_rfl)) (fun _ _ _ h => h) (Or.inl ⟨by rfl, ?_⟩) ?_ ?_
            rotate_left
            · intro w'
              go_simp
              with_reducible rfl
            rotate_left
            · simp only [Act.put, List.setIfInBounds_toArray, List.set_cons_zero, List.set_cons_succ, i64_w, i32_w]
              rfl
            refine pure_ (i := 16) (N := some 47) (v := ?_) (a' := ?_) #[true, true, true, true, true, true, true, true, true, true, true, true, true, true, true, true, true, false] rfl rfl (any_of HT_.out (by kernel_rfl)) (fun _ _ _ h => h) (Or.inl ⟨by rfl, ?_⟩) ?_ ?_
            rotate_left
            · intro w'
              go_simp
              with_reducible rfl
            rotate_left
            · simp only [Act.put, List.setIfInBounds_toArray, List.set_cons_zero, List.set_cons_succ, i64_w, i32_w]
              rfl
            refine pure_ (i := 17) (N := some 48) (v := ?_) (a' := ?_) #[true, true, true, true, true, true, true, true, true, true, true, true, true, true, true, true, true, true] rfl rfl (any_of HT_.out (by kernel_rfl)) (fun _ _ _ h => h) (Or.inl ⟨by rfl, ?_⟩) ?_ ?_
            rotate_left
            · intro w'
              go_simp
              with_reducible rfl
            rotate_left
            · simp only [Act.put, List.setIfInBounds_toArray, List.set_cons_zero, List.set_cons_succ, i64_w, i32_w]
              rfl
            refine done_ (done_of HT_.out (by kernel_rfl)) ?_
            have HHn := Aside0.mk hHn; clear hHn hcl hHeld hHeld2 HT_
            have hcLT := cmpP_lt x y; have hcZ := cmpP_zero x y
            by_cases hlt : ltP x y
            · have hcm : cmpP x y < 0 := hcLT.2 hlt; clear hcLT hcZ
              have HLt := Aside0.mk hlt; clear hlt
              have a0 := HHn.out.1; have a1 := HHn.out.2.1; have a2 := HHn.out.2.2.1
              by_cases hc1 : ca = 1
              · have HCd2 := Aside0.mk (show Kd.C k37 w4 _ a.length a by have := HCda.out; rw [if_pos hc1] at this; exact this)
                have hnb : na - 1 = a.length := by have := HBl.out; simp only [List.length_cons] at this; omega
                have hcn : na ≤ ca := by assumption
                have hn1 : 1 ≤ na := by have := HBl.out; simp only [List.length_cons] at this; omega
                have hc0 : ca - 1 = 0 := by omega
                have HOB := Aside0.mk (Kd.R_below HO.out HBC.out)
                have HWB := Aside0.mk (below_step HBr.out HBC.out)
                have hzb := HWB.out.size
                have hol : (o.length + 1) * 32 ≤ 140737488355328 := by have h1 := HLen.out; omega
                have HOL := Aside0.mk hol; clear hol
                go_wp2_with ((with_reducible refine gate_builtin (b := .append) (xs := #[.tmp 49, .tmp 53]) rfl ?_); at_builtin; refine app37 (w0 := w4) (base := w4.heap.size) (ok := fun _ => True) rfl (.tmp 49) (.tmp 53) rfl _ o x rfl rfl rfl (fun _ _ => trivial) HOB.out HWB.out hzb HOL.out ?_; intro v9 w9 ho9 hb9 hg9; have HO9 := Aside0.mk ho9; have HB9 := Aside0.mk hb9; clear ho9 hb9 hg9)
                go_roundg (a.length + nb)
                case measure => have := HM.out; have := HBl.out; have := HBm.out; simp only [List.length_cons] at *; omega
                case rel => exact ⟨a, y :: b, o ++ [x], _, _, _, cb, rfl, by rw [HBm.out], by omega, by rw [HBm.out]; exact hcb, ⟨by simp only [List.length_cons]; have := HBm.out; simp only [List.length_cons] at this; omega⟩, ⟨by have := HLen.out; have := HBl.out; have := HBm.out; simp only [List.length_append, List.length_cons, List.length_nil] at *; omega⟩, ⟨by have := HEq.out; rw [show mergeP (x :: a) (y :: b) = x :: mergeP a (y :: b) by conv => lhs; unfold mergeP; rw [if_pos HLt.out]] at this; simpa using this⟩, ⟨HCd2.out⟩, ⟨by rw [HBm.out]; exact HCb.out⟩, ⟨HO9.out⟩, ⟨HB9.out⟩⟩
              · have HCd2 := Aside0.mk (show Kd.C k37 w4 _ a.length a by have := HCda.out; rw [if_neg hc1] at this; exact this)
                have hnb : na - 1 = a.length := by have := HBl.out; simp only [List.length_cons] at this; omega
                have hcn : na ≤ ca := by assumption
                have hn1 : 1 ≤ na := by have := HBl.out; simp only [List.length_cons] at this; omega
                have hc0 : ¬ ca - 1 = 0 := by omega
                have HOB := Aside0.mk (Kd.R_below HO.out HBC.out)
                have HWB := Aside0.mk (below_step HBr.out HBC.out)
                have hzb := HWB.out.size
                have hol : (o.length + 1) * 32 ≤ 140737488355328 := by have h1 := HLen.out; omega
                have HOL := Aside0.mk hol; clear hol
                go_wp2_with ((with_reducible refine gate_builtin (b := .append) (xs := #[.tmp 49, .tmp 53]) rfl ?_); at_builtin; refine app37 (w0 := w4) (base := w4.heap.size) (ok := fun _ => True) rfl (.tmp 49) (.tmp 53) rfl _ o x rfl rfl rfl (fun _ _ => trivial) HOB.out HWB.out hzb HOL.out ?_; intro v9 w9 ho9 hb9 hg9; have HO9 := Aside0.mk ho9; have HB9 := Aside0.mk hb9; clear ho9 hb9 hg9)
                go_roundg (a.length + nb)
                case measure => have := HM.out; have := HBl.out; have := HBm.out; simp only [List.length_cons] at *; omega
                case rel => exact ⟨a, y :: b, o ++ [x], _, _, _, cb, rfl, by rw [HBm.out], by omega, by rw [HBm.out]; exact hcb, ⟨by simp only [List.length_cons]; have := HBm.out; simp only [List.length_cons] at this; omega⟩, ⟨by have := HLen.out; have := HBl.out; have := HBm.out; simp only [List.length_append, List.length_cons, List.length_nil] at *; omega⟩, ⟨by have := HEq.out; rw [show mergeP (x :: a) (y :: b) = x :: mergeP a (y :: b) by conv => lhs; unfold mergeP; rw [if_pos HLt.out]] at this; simpa using this⟩, ⟨HCd2.out⟩, ⟨by rw [HBm.out]; exact HCb.out⟩, ⟨HO9.out⟩, ⟨HB9.out⟩⟩
            · have hcm : ¬ cmpP x y < 0 := fun h => hlt (hcLT.1 h)
              have HLt := Aside0.mk hlt; clear hlt hcLT
              go_wp2
              refine start_ (n := 13) (S := fun w' => w'.cell? adx = some (.int .i64 x.f0) ∧ w'.cell? ⟨adx.block, adx.off + 1, none⟩ = some (.int .i64 x.f1) ∧ w'.cell? ⟨adx.block, adx.off + 2, none⟩ = some (.string x.f2) ∧ w'.cell? ady = some (.int .i64 y.f0) ∧ w'.cell? ⟨ady.block, ady.off + 1, none⟩ = some (.int .i64 y.f1) ∧ w'.cell? ⟨ady.block, ady.off + 2, none⟩ = some (.string y.f2)) (ds := []) #[false, false, false, false, false, false, false, false, false, false, false, false, false] (by kernel_rfl) rfl rfl HHn.out (fun hHeld => ?_); refine with_tab tab20_9 (fun HT_ => ?_)
              have HBD := Aside0.mk (below_drew1 (Below.refl wC.heap.size wC))
              generalize wC.drew = wD at HBD hHeld ⊢
              refine pure_ (i := 0) (N := some 57) (v := ?_) (a' := ?_) #[true, false, false, false, false, false, false, false, false, false, false, false, false] rfl rfl (any_of HT_.out (by kernel_rfl)) (fun _ _ _ h => h) (Or.inl ⟨by rfl, ?_⟩) ?_ ?_
              rotate_left
              · intro w'
                go_simp
                with_reducible rfl
              rotate_left
              · simp only [Act.put, List.setIfInBounds_toArray, List.set_cons_zero, List.set_cons_succ, i64_w, i32_w]
                rfl
              refine pure_ (i := 1) (N := some 58) (v := ?_) (a' := ?_) #[true, true, false, false, false, false, false, false, false, false, false, false, false] rfl rfl (any_of HT_.out (by kernel_rfl)) (fun _ _ _ h => h) (Or.inl ⟨by rfl, ?_⟩) ?_ ?_
              rotate_left
              · intro w'
                go_simp
                with_reducible rfl
              rotate_left
              · simp only [Act.put, List.setIfInBounds_toArray, List.set_cons_zero, List.set_cons_succ, i64_w, i32_w]
                rfl
              refine pure_ (i := 2) (N := some 59) (v := ?_) (a' := ?_) #[true, true, true, false, false, false, false, false, false, false, false, false, false] rfl rfl (any_of HT_.out (by kernel_rfl)) (fun _ _ _ h => h) (Or.inl ⟨by rfl, ?_⟩) ?_ ?_
              rotate_left
              · intro w'
                go_simp
                with_reducible rfl
              rotate_left
              · simp only [Act.put, List.setIfInBounds_toArray, List.set_cons_zero, List.set_cons_succ, i64_w, i32_w]
                rfl
              refine pure_ (i := 3) (N := some 60) (v := ?_) (a' := ?_) #[true, true, true, true, false, false, false, false, false, false, false, false, false] rfl rfl (any_of HT_.out (by kernel_rfl)) (fun _ _ _ h => h) (Or.inl ⟨by rfl, ?_⟩) ?_ ?_
              rotate_left
              · intro w'
                go_simp
                with_reducible rfl
              rotate_left
              · simp only [Act.put, List.setIfInBounds_toArray, List.set_cons_zero, List.set_cons_succ, i64_w, i32_w]
                rfl
              refine pure_ (i := 4) (N := some 61) (v := ?_) (a' := ?_) #[true, true, true, true, true, false, false, false, false, false, false, false, false] rfl rfl (any_of HT_.out (by kernel_rfl)) (fun _ _ _ h => h) (Or.inl ⟨by rfl, ?_⟩) ?_ ?_
              rotate_left
              · intro w'
                go_simp
                with_reducible rfl
              rotate_left
              · simp only [Act.put, List.setIfInBounds_toArray, List.set_cons_zero, List.set_cons_succ, i64_w, i32_w]
                rfl
              refine pure_ (i := 5) (N := some 62) (v := ?_) (a' := ?_) #[true, true, true, true, true, true, false, false, false, false, false, false, false] rfl rfl (any_of HT_.out (by kernel_rfl)) (fun _ _ _ h => h) (Or.inl ⟨by rfl, ?_⟩) ?_ ?_
              rotate_left
              · intro w'
                go_simp
                with_reducible rfl
              rotate_left
              · simp only [Act.put, List.setIfInBounds_toArray, List.set_cons_zero, List.set_cons_succ, i64_w, i32_w]
                rfl
              refine pure_ (i := 7) (N := some 64) (v := ?_) (a' := ?_) #[true, true, true, true, true, true, false, true, false, false, false, false, false] rfl rfl (any_of HT_.out (by kernel_rfl)) (fun _ _ _ h => h) (Or.inl ⟨by rfl, ?_⟩) ?_ ?_
              rotate_left
              · intro w'
                go_simp
                with_reducible rfl
              rotate_left
              · simp only [Act.put, List.setIfInBounds_toArray, List.set_cons_zero, List.set_cons_succ, i64_w, i32_w]
                rfl
              refine pure_ (i := 8) (N := some 65) (v := ?_) (a' := ?_) #[true, true, true, true, true, true, false, true, true, false, false, false, false] rfl rfl (any_of HT_.out (by kernel_rfl)) (fun _ _ _ h => h) (Or.inl ⟨by rfl, ?_⟩) ?_ ?_
              rotate_left
              · intro w'
                go_simp
                with_reducible rfl
              rotate_left
              · simp only [Act.put, List.setIfInBounds_toArray, List.set_cons_zero, List.set_cons_succ, i64_w, i32_w]
                rfl
              refine take_ (i := 6) (N := some 63) (v := ?_) (a' := ?_) #[true, true, true, true, true, true, true, true, true, false, false, false, false] rfl rfl (take_of HT_.out (by kernel_rfl)) (fun _ _ _ h => h) (Or.inl ⟨by rfl, ?_⟩) hHeld ?_ ?_
              rotate_left
              · rintro w' ⟨s0, s1, s2, s3, s4, s5⟩
                go_simp
                with_reducible rfl
              rotate_left
              · simp only [Act.put, List.setIfInBounds_toArray, List.set_cons_zero, List.set_cons_succ, i64_w, i32_w]
                rfl
              refine take_ (i := 9) (N := some 66) (v := ?_) (a' := ?_) #[true, true, true, true, true, true, true, true, true, true, false, false, false] rfl rfl (take_of HT_.out (by kernel_rfl)) (fun _ _ _ h => h) (Or.inl ⟨by rfl, ?_⟩) hHeld ?_ ?_
              rotate_left
              · rintro w' ⟨s0, s1, s2, s3, s4, s5⟩
                go_simp
                with_reducible rfl
              rotate_left
              · simp only [Act.put, List.setIfInBounds_toArray, List.set_cons_zero, List.set_cons_succ, i64_w, i32_w]
                rfl
              refine one_ (i := 10) (N := some 67) #[true, true, true, true, true, true, true, true, true, true, true, false, false] rfl rfl (one_of HT_.out (by kernel_rfl)) (by decide) (fun K hK => ?_)
              refine goes_ Tryz.func78 (by kernel_rfl) rfl #[pv x, pv y] (by rfl) rfl rfl (by (try simp only [List.map_toArray, List.map_cons, List.map_nil]); first | done | rfl) ?_
              refine (vellumref17_Cmp.calls _ _ _ _ _ _ _ wD (cmp_eq x y)).mono ?_
              rintro e wE ⟨rfl, hb⟩
              refine ⟨_, rfl, ?_⟩
              have HBE' := Aside0.mk (below_step HBD.out hb); clear hb
              have hcl := fun (p : Addr) (u : Value) (h : wC.cell? p = some u) => (HBE'.out.cell (World.block_lt_of_cell? _ _ h)).trans h
              have hHn : _ ∧ _ ∧ _ ∧ _ ∧ _ ∧ _ := ⟨hcl _ _ HHn.out.1, hcl _ _ HHn.out.2.1, hcl _ _ HHn.out.2.2.1, hcl _ _ HHn.out.2.2.2.1, hcl _ _ HHn.out.2.2.2.2.1, hcl _ _ HHn.out.2.2.2.2.2⟩
              refine hK.out _ _ hHn (fun hHeld2 => ?_)
              clear hK K
              refine norm_ (a' := ?_) ?_ ?_
              rotate_left
              · show Act.put _ (some 67) _ = _
                simp only [Act.put, List.setIfInBounds_toArray, List.set_cons_zero, List.set_cons_succ, i64_w, i32_w]
                rfl
              refine pure_ (i := 11) (N := some 68) (v := ?_) (a' := ?_) #[true, true, true, true, true, true, true, true, true, true, true, true, false] rfl rfl (any_of HT_.out (by kernel_rfl)) (fun _ _ _ h => h) (Or.inl ⟨by rfl, ?_⟩) ?_ ?_
              rotate_left
              · intro w'
                go_simp
                with_reducible rfl
              rotate_left
              · simp only [Act.put, List.setIfInBounds_toArray, List.set_cons_zero, List.set_cons_succ, i64_w, i32_w]
                rfl
              refine pure_ (i := 12) (N := some 69) (v := ?_) (a' := ?_) #[true, true, true, true, true, true, true, true, true, true, true, true, true] rfl rfl (any_of HT_.out (by kernel_rfl)) (fun _ _ _ h => h) (Or.inl ⟨by rfl, ?_⟩) ?_ ?_
              rotate_left
              · intro w'
                go_simp
                with_reducible rfl
              rotate_left
              · simp only [Act.put, List.setIfInBounds_toArray, List.set_cons_zero, List.set_cons_succ, i64_w, i32_w]
                rfl
              refine done_ (done_of HT_.out (by kernel_rfl)) ?_
              have HHm := Aside0.mk hHn; clear hHn hcl hHeld hHeld2 HT_ HHn hcm
              have HBE := Aside0.mk (below_step HBC.out HBE'.out); clear HBC HBE'
              by_cases hxy : x = y
              · have hcm : cmpP x y = 0 := hcZ.2 hxy; clear hcZ
                have HXy := Aside0.mk hxy; clear hxy
                by_cases hc2 : ca = 1
                · have HCa2 := Aside0.mk (show Kd.C k37 w4 _ a.length a by have := HCda.out; rw [if_pos hc2] at this; exact this)
                  have hnb2 : na - 1 = a.length := by have := HBl.out; simp only [List.length_cons] at this; omega
                  have hcn2 : na ≤ ca := hca
                  have hn12 : 1 ≤ na := by have := HBl.out; simp only [List.length_cons] at this; omega
                  have hc02 : ca - 1 = 0 := by omega
                  have a0 := HHm.out.2.2.2.1; have a1 := HHm.out.2.2.2.2.1; have a2 := HHm.out.2.2.2.2.2
                  by_cases hc1 : cb = 1
                  · have HCd2 := Aside0.mk (show Kd.C k37 w4 _ b.length b by have := HCdb.out; rw [if_pos hc1] at this; exact this)
                    have hnb : nb - 1 = b.length := by have := HBm.out; simp only [List.length_cons] at this; omega
                    have hcn : nb ≤ cb := by assumption
                    have hn1 : 1 ≤ nb := by have := HBm.out; simp only [List.length_cons] at this; omega
                    have hc0 : cb - 1 = 0 := by omega
                    have HOB := Aside0.mk (Kd.R_below HO.out HBE.out)
                    have HWB := Aside0.mk (below_step HBr.out HBE.out)
                    have hzb := HWB.out.size
                    have hol : (o.length + 1) * 32 ≤ 140737488355328 := by have h1 := HLen.out; omega
                    have HOL := Aside0.mk hol; clear hol
                    go_wp2_with ((with_reducible refine gate_builtin (b := .append) (xs := #[.tmp 72, .tmp 76]) rfl ?_); at_builtin; refine app37 (w0 := w4) (base := w4.heap.size) (ok := fun _ => True) rfl (.tmp 72) (.tmp 76) rfl _ o y rfl rfl rfl (fun _ _ => trivial) HOB.out HWB.out hzb HOL.out ?_; intro v9 w9 ho9 hb9 hg9; have HO9 := Aside0.mk ho9; have HB9 := Aside0.mk hb9; clear ho9 hb9 hg9)
                    go_roundg (a.length + b.length)
                    case measure => have := HM.out; have := HBl.out; have := HBm.out; simp only [List.length_cons] at *; omega
                    case rel => exact ⟨a, b, o ++ [y], _, _, _, _, rfl, rfl, by omega, by omega, ⟨by simp⟩, ⟨by have := HLen.out; have := HBl.out; have := HBm.out; simp only [List.length_append, List.length_cons, List.length_nil] at *; omega⟩, ⟨by have := HEq.out; rw [show mergeP (x :: a) (y :: b) = y :: mergeP a b by conv => lhs; unfold mergeP; rw [if_neg HLt.out, if_pos HXy.out]] at this; simpa using this⟩, ⟨HCa2.out⟩, ⟨HCd2.out⟩, ⟨HO9.out⟩, ⟨HB9.out⟩⟩
                  · have HCd2 := Aside0.mk (show Kd.C k37 w4 _ b.length b by have := HCdb.out; rw [if_neg hc1] at this; exact this)
                    have hnb : nb - 1 = b.length := by have := HBm.out; simp only [List.length_cons] at this; omega
                    have hcn : nb ≤ cb := by assumption
                    have hn1 : 1 ≤ nb := by have := HBm.out; simp only [List.length_cons] at this; omega
                    have hc0 : ¬ cb - 1 = 0 := by omega
                    have HOB := Aside0.mk (Kd.R_below HO.out HBE.out)
                    have HWB := Aside0.mk (below_step HBr.out HBE.out)
                    have hzb := HWB.out.size
                    have hol : (o.length + 1) * 32 ≤ 140737488355328 := by have h1 := HLen.out; omega
                    have HOL := Aside0.mk hol; clear hol
                    go_wp2_with ((with_reducible refine gate_builtin (b := .append) (xs := #[.tmp 72, .tmp 76]) rfl ?_); at_builtin; refine app37 (w0 := w4) (base := w4.heap.size) (ok := fun _ => True) rfl (.tmp 72) (.tmp 76) rfl _ o y rfl rfl rfl (fun _ _ => trivial) HOB.out HWB.out hzb HOL.out ?_; intro v9 w9 ho9 hb9 hg9; have HO9 := Aside0.mk ho9; have HB9 := Aside0.mk hb9; clear ho9 hb9 hg9)
                    go_roundg (a.length + b.length)
                    case measure => have := HM.out; have := HBl.out; have := HBm.out; simp only [List.length_cons] at *; omega
                    case rel => exact ⟨a, b, o ++ [y], _, _, _, _, rfl, rfl, by omega, by omega, ⟨by simp⟩, ⟨by have := HLen.out; have := HBl.out; have := HBm.out; simp only [List.length_append, List.length_cons, List.length_nil] at *; omega⟩, ⟨by have := HEq.out; rw [show mergeP (x :: a) (y :: b) = y :: mergeP a b by conv => lhs; unfold mergeP; rw [if_neg HLt.out, if_pos HXy.out]] at this; simpa using this⟩, ⟨HCa2.out⟩, ⟨HCd2.out⟩, ⟨HO9.out⟩, ⟨HB9.out⟩⟩
                · have HCa2 := Aside0.mk (show Kd.C k37 w4 _ a.length a by have := HCda.out; rw [if_neg hc2] at this; exact this)
                  have hnb2 : na - 1 = a.length := by have := HBl.out; simp only [List.length_cons] at this; omega
                  have hcn2 : na ≤ ca := hca
                  have hn12 : 1 ≤ na := by have := HBl.out; simp only [List.length_cons] at this; omega
                  have hc02 : ¬ ca - 1 = 0 := by omega
                  have a0 := HHm.out.2.2.2.1; have a1 := HHm.out.2.2.2.2.1; have a2 := HHm.out.2.2.2.2.2
                  by_cases hc1 : cb = 1
                  · have HCd2 := Aside0.mk (show Kd.C k37 w4 _ b.length b by have := HCdb.out; rw [if_pos hc1] at this; exact this)
                    have hnb : nb - 1 = b.length := by have := HBm.out; simp only [List.length_cons] at this; omega
                    have hcn : nb ≤ cb := by assumption
                    have hn1 : 1 ≤ nb := by have := HBm.out; simp only [List.length_cons] at this; omega
                    have hc0 : cb - 1 = 0 := by omega
                    have HOB := Aside0.mk (Kd.R_below HO.out HBE.out)
                    have HWB := Aside0.mk (below_step HBr.out HBE.out)
                    have hzb := HWB.out.size
                    have hol : (o.length + 1) * 32 ≤ 140737488355328 := by have h1 := HLen.out; omega
                    have HOL := Aside0.mk hol; clear hol
                    go_wp2_with ((with_reducible refine gate_builtin (b := .append) (xs := #[.tmp 72, .tmp 76]) rfl ?_); at_builtin; refine app37 (w0 := w4) (base := w4.heap.size) (ok := fun _ => True) rfl (.tmp 72) (.tmp 76) rfl _ o y rfl rfl rfl (fun _ _ => trivial) HOB.out HWB.out hzb HOL.out ?_; intro v9 w9 ho9 hb9 hg9; have HO9 := Aside0.mk ho9; have HB9 := Aside0.mk hb9; clear ho9 hb9 hg9)
                    go_roundg (a.length + b.length)
                    case measure => have := HM.out; have := HBl.out; have := HBm.out; simp only [List.length_cons] at *; omega
                    case rel => exact ⟨a, b, o ++ [y], _, _, _, _, rfl, rfl, by omega, by omega, ⟨by simp⟩, ⟨by have := HLen.out; have := HBl.out; have := HBm.out; simp only [List.length_append, List.length_cons, List.length_nil] at *; omega⟩, ⟨by have := HEq.out; rw [show mergeP (x :: a) (y :: b) = y :: mergeP a b by conv => lhs; unfold mergeP; rw [if_neg HLt.out, if_pos HXy.out]] at this; simpa using this⟩, ⟨HCa2.out⟩, ⟨HCd2.out⟩, ⟨HO9.out⟩, ⟨HB9.out⟩⟩
                  · have HCd2 := Aside0.mk (show Kd.C k37 w4 _ b.length b by have := HCdb.out; rw [if_neg hc1] at this; exact this)
                    have hnb : nb - 1 = b.length := by have := HBm.out; simp only [List.length_cons] at this; omega
                    have hcn : nb ≤ cb := by assumption
                    have hn1 : 1 ≤ nb := by have := HBm.out; simp only [List.length_cons] at this; omega
                    have hc0 : ¬ cb - 1 = 0 := by omega
                    have HOB := Aside0.mk (Kd.R_below HO.out HBE.out)
                    have HWB := Aside0.mk (below_step HBr.out HBE.out)
                    have hzb := HWB.out.size
                    have hol : (o.length + 1) * 32 ≤ 140737488355328 := by have h1 := HLen.out; omega
                    have HOL := Aside0.mk hol; clear hol
                    go_wp2_with ((with_reducible refine gate_builtin (b := .append) (xs := #[.tmp 72, .tmp 76]) rfl ?_); at_builtin; refine app37 (w0 := w4) (base := w4.heap.size) (ok := fun _ => True) rfl (.tmp 72) (.tmp 76) rfl _ o y rfl rfl rfl (fun _ _ => trivial) HOB.out HWB.out hzb HOL.out ?_; intro v9 w9 ho9 hb9 hg9; have HO9 := Aside0.mk ho9; have HB9 := Aside0.mk hb9; clear ho9 hb9 hg9)
                    go_roundg (a.length + b.length)
                    case measure => have := HM.out; have := HBl.out; have := HBm.out; simp only [List.length_cons] at *; omega
                    case rel => exact ⟨a, b, o ++ [y], _, _, _, _, rfl, rfl, by omega, by omega, ⟨by simp⟩, ⟨by have := HLen.out; have := HBl.out; have := HBm.out; simp only [List.length_append, List.length_cons, List.length_nil] at *; omega⟩, ⟨by have := HEq.out; rw [show mergeP (x :: a) (y :: b) = y :: mergeP a b by conv => lhs; unfold mergeP; rw [if_neg HLt.out, if_pos HXy.out]] at this; simpa using this⟩, ⟨HCa2.out⟩, ⟨HCd2.out⟩, ⟨HO9.out⟩, ⟨HB9.out⟩⟩
              · have hcm : ¬ cmpP x y = 0 := fun h => hxy (hcZ.1 h)
                have hcb_ : (cmpP x y == 0) = false := by simpa using hcm
                have HXy := Aside0.mk hxy; clear hxy hcZ
                have a0 := HHm.out.2.2.2.1; have a1 := HHm.out.2.2.2.2.1; have a2 := HHm.out.2.2.2.2.2
                by_cases hc1 : cb = 1
                · have HCd2 := Aside0.mk (show Kd.C k37 w4 _ b.length b by have := HCdb.out; rw [if_pos hc1] at this; exact this)
                  have hnb : nb - 1 = b.length := by have := HBm.out; simp only [List.length_cons] at this; omega
                  have hcn : nb ≤ cb := by assumption
                  have hn1 : 1 ≤ nb := by have := HBm.out; simp only [List.length_cons] at this; omega
                  have hc0 : cb - 1 = 0 := by omega
                  have HOB := Aside0.mk (Kd.R_below HO.out HBE.out)
                  have HWB := Aside0.mk (below_step HBr.out HBE.out)
                  have hzb := HWB.out.size
                  have hol : (o.length + 1) * 32 ≤ 140737488355328 := by have h1 := HLen.out; omega
                  have HOL := Aside0.mk hol; clear hol
                  go_wp2_with ((with_reducible refine gate_builtin (b := .append) (xs := #[.tmp 72, .tmp 76]) rfl ?_); at_builtin; refine app37 (w0 := w4) (base := w4.heap.size) (ok := fun _ => True) rfl (.tmp 72) (.tmp 76) rfl _ o y rfl rfl rfl (fun _ _ => trivial) HOB.out HWB.out hzb HOL.out ?_; intro v9 w9 ho9 hb9 hg9; have HO9 := Aside0.mk ho9; have HB9 := Aside0.mk hb9; clear ho9 hb9 hg9)
                  go_roundg (na + b.length)
                  case measure => have := HM.out; have := HBl.out; have := HBm.out; simp only [List.length_cons] at *; omega
                  case rel => exact ⟨x :: a, b, o ++ [y], _, _, ca, _, by rw [HBl.out], rfl, by rw [HBl.out]; exact hca, by omega, ⟨by simp only [List.length_cons]; have := HBl.out; simp only [List.length_cons] at this; omega⟩, ⟨by have := HLen.out; have := HBl.out; have := HBm.out; simp only [List.length_append, List.length_cons, List.length_nil] at *; omega⟩, ⟨by have := HEq.out; rw [show mergeP (x :: a) (y :: b) = y :: mergeP (x :: a) b by conv => lhs; unfold mergeP; rw [if_neg HLt.out, if_neg HXy.out]] at this; simpa using this⟩, ⟨by rw [HBl.out]; exact HCa.out⟩, ⟨HCd2.out⟩, ⟨HO9.out⟩, ⟨HB9.out⟩⟩
                · have HCd2 := Aside0.mk (show Kd.C k37 w4 _ b.length b by have := HCdb.out; rw [if_neg hc1] at this; exact this)
                  have hnb : nb - 1 = b.length := by have := HBm.out; simp only [List.length_cons] at this; omega
                  have hcn : nb ≤ cb := by assumption
                  have hn1 : 1 ≤ nb := by have := HBm.out; simp only [List.length_cons] at this; omega
                  have hc0 : ¬ cb - 1 = 0 := by omega
                  have HOB := Aside0.mk (Kd.R_below HO.out HBE.out)
                  have HWB := Aside0.mk (below_step HBr.out HBE.out)
                  have hzb := HWB.out.size
                  have hol : (o.length + 1) * 32 ≤ 140737488355328 := by have h1 := HLen.out; omega
                  have HOL := Aside0.mk hol; clear hol
                  go_wp2_with ((with_reducible refine gate_builtin (b := .append) (xs := #[.tmp 72, .tmp 76]) rfl ?_); at_builtin; refine app37 (w0 := w4) (base := w4.heap.size) (ok := fun _ => True) rfl (.tmp 72) (.tmp 76) rfl _ o y rfl rfl rfl (fun _ _ => trivial) HOB.out HWB.out hzb HOL.out ?_; intro v9 w9 ho9 hb9 hg9; have HO9 := Aside0.mk ho9; have HB9 := Aside0.mk hb9; clear ho9 hb9 hg9)
                  go_roundg (na + b.length)
                  case measure => have := HM.out; have := HBl.out; have := HBm.out; simp only [List.length_cons] at *; omega
                  case rel => exact ⟨x :: a, b, o ++ [y], _, _, ca, _, by rw [HBl.out], rfl, by rw [HBl.out]; exact hca, by omega, ⟨by simp only [List.length_cons]; have := HBl.out; simp only [List.length_cons] at this; omega⟩, ⟨by have := HLen.out; have := HBl.out; have := HBm.out; simp only [List.length_append, List.length_cons, List.length_nil] at *; omega⟩, ⟨by have := HEq.out; rw [show mergeP (x :: a) (y :: b) = y :: mergeP (x :: a) b by conv => lhs; unfold mergeP; rw [if_neg HLt.out, if_neg HXy.out]] at this; simpa using this⟩, ⟨by rw [HBl.out]; exact HCa.out⟩, ⟨HCd2.out⟩, ⟨HO9.out⟩, ⟨HB9.out⟩⟩
theorem RowP_one {w : World} {g : Nat} {p : S37} (h : w.heap[g]? = some (pO p)) : RowP w g [p] := by
  intro i x hx j u hu
  cases i with
  | zero =>
    obtain rfl : p = x := by simpa using hx
    have hu' : (#[Value.int .i64 p.f0, .int .i64 p.f1, .string p.f2] : Array Value)[j]? = some u := by rw [← hu, ← Array.getElem?_toList]; rfl
    exact ⟨by rw [Nat.zero_mul, Nat.zero_add]; exact (cell_of h j).trans hu', frozen_of h _⟩
  | succ n => simp at hx
theorem C_one {w : World} {g : Nat} {p : S37} (h : w.heap[g]? = some (pO p)) : Kd.C k37 w (some ⟨g, 0, none⟩) 1 [p] := (RowP_one h).C (by simp)
def pA : S37 := ⟨0, -1, ⟨#[97]⟩⟩
theorem wfA : wfP pA := ⟨by decide, by decide, by decide⟩
theorem readsA : readsS [pA] [] pA = true := by unfold readsS; simp [(eqP_iff pA pA).2 rfl]
theorem leastA : leastS ([pA].filter (readsS [pA] [])) = some pA := by
  rw [List.filter_cons_of_pos (by exact readsA)]
  rfl
set_option maxHeartbeats 4000000 in
set_option maxRecDepth 100000 in
theorem awake_any (w : World) : Calls Tryz.prog 13 #[] w fun e w' => e = .returned (.bool true) ∧ Below w.heap.size w w' := by
  have hS : (⟨#[97]⟩ : ByteArray) = pA.f2 := rfl
  generalize hW : (((w.alloc (.cells #[.int .i64 0, .int .i64 (-1), .string ⟨#[97]⟩] 37)).alloc (.cells #[.slice (some ⟨w.heap.size, 0, none⟩) 1 1, .slice none 0 0, .slice none 0 0] 25)).alloc (.cells #[.int .i64 0, .int .i64 (-1), .string ⟨#[97]⟩] 37)).alloc (.cells #[.slice none 0 0, .slice none 0 0, .slice (some ⟨w.heap.size + 1 + 1, 0, none⟩) 1 1] 25) = W
  have hB : Below w.heap.size w W := by rw [← hW]; exact below_alloc (below_alloc (below_alloc (below_alloc (Below.refl _ _) _) _) _) _
  have b0 : W.heap[w.heap.size]? = some (pO pA) := by rw [← hW]; exact heap_old (heap_old (heap_old (heap_new _ _)))
  have b1 : W.heap[w.heap.size + 1]? = some (.cells #[.slice (some ⟨w.heap.size, 0, none⟩) 1 1, .slice none 0 0, .slice none 0 0] 25) := by rw [← hW]; have := heap_new (w.alloc (pO pA)) (.cells #[.slice (some ⟨w.heap.size, 0, none⟩) 1 1, .slice none 0 0, .slice none 0 0] 25); rw [size_new] at this; exact heap_old (heap_old this)
  have b2 : W.heap[w.heap.size + 1 + 1]? = some (pO pA) := by rw [← hW]; have := heap_new ((w.alloc (pO pA)).alloc (.cells #[.slice (some ⟨w.heap.size, 0, none⟩) 1 1, .slice none 0 0, .slice none 0 0] 25)) (pO pA); rw [size_new, size_new] at this; exact heap_old this
  have hcall : Calls Tryz.prog 17 #[.agg #[.slice (some ⟨w.heap.size, 0, none⟩) 1 1, .slice none 0 0, .slice none 0 0], .agg #[.slice none 0 0, .slice none 0 0, .slice (some ⟨w.heap.size + 1 + 1, 0, none⟩) 1 1]] W fun e w' => e = .returned (.tuple #[.agg #[.int .i64 0, .int .i64 (-1), .string ⟨#[97]⟩], .bool true]) ∧ Below W.heap.size W w' :=
    (clash_any [pA] [] [pA] (some ⟨w.heap.size, 0, none⟩) none none none none (some ⟨w.heap.size + 1 + 1, 0, none⟩) 0 0 0 1 0 0 0 0 1 W (C_one b0) (by decide) (Kd.R_reads' (Kd.R_nil k46 46 W 0 (fun _ => True))).2.2 (by decide) (C_one b2) (by decide) (by decide) (fun x hx => by obtain rfl := List.mem_singleton.1 hx; exact wfA) (fun x hx => by obtain rfl := List.mem_singleton.1 hx; exact wfA)).mono fun e w' h => ⟨by rw [h.1, leastA]; rfl, h.2⟩
  have hcall2 : ∀ V, Below W.heap.size W V → Calls Tryz.prog 16 #[.agg #[.slice (some ⟨w.heap.size, 0, none⟩) 1 1, .slice none 0 0, .slice none 0 0], .agg #[.int .i64 0, .int .i64 (-1), .string ⟨#[97]⟩]] V fun e w' => e = .returned (.bool true) ∧ Below V.heap.size V w' := fun V hV =>
    (reads_any [pA] [] (some ⟨w.heap.size, 0, none⟩) none none 0 1 0 0 pA V (C_one ((hV.block _ (lt_of b0)).trans b0)) (by decide) (Kd.R_reads' (Kd.R_nil k46 46 V 0 (fun _ => True))).2.2 (by decide) (by decide)).mono fun e w' h => ⟨by rw [h.1, readsA], h.2⟩
  have HC := Aside0.mk hcall
  have HC2 := Aside0.mk hcall2
  have HB := Aside0.mk hB
  have HW := Aside0.mk hW
  have D1 := Aside0.mk b1
  clear hcall hcall2 hB hW b0 b1 b2 hS
  go_enter Tryz.func13, Tryz.ntmps13
  go_wp2_with fail
  rw [HW.out]
  clear HW
  go_wp2_with (first | (go_at_call 17; refine HC.out.mono ?_; rintro e w5 ⟨rfl, hb⟩; have HB5 := Aside0.mk hb; have m1 : w5.cell? ⟨w.heap.size + 1, 0, none⟩ = some (.slice (some ⟨w.heap.size, 0, none⟩) 1 1) := (hb.cell (World.block_lt_of_cell? _ _ (cell_of D1.out 0))).trans (cell_of D1.out 0); have m2 : w5.cell? ⟨w.heap.size + 1, 1, none⟩ = some (.slice none 0 0) := (hb.cell (World.block_lt_of_cell? _ _ (cell_of D1.out 1))).trans (cell_of D1.out 1); have m3 : w5.cell? ⟨w.heap.size + 1, 2, none⟩ = some (.slice none 0 0) := (hb.cell (World.block_lt_of_cell? _ _ (cell_of D1.out 2))).trans (cell_of D1.out 2); have hlt : w.heap.size + 1 < w5.heap.size := Nat.lt_of_lt_of_le (lt_of D1.out) hb.size; clear hb) | (go_at_call 16; refine (HC2.out _ (below_alloc HB5.out _)).mono ?_; rintro e w6 ⟨rfl, hb6⟩))
  go_ret
  exact ⟨rfl, below_step HB.out (below_step (below_alloc HB5.out _) hb6)⟩
structure Ft where
  ps : List S37
  ss : List S46
  ws : List S37
def Ft.small (f : Ft) : Prop := f.ps.length * 32 ≤ 140737488351232 ∧ f.ss.length * 56 ≤ 140737488351232 ∧ f.ws.length * 32 ≤ 140737488351232
def Ft.wf (f : Ft) : Prop := (∀ x ∈ f.ps, wfP x) ∧ (∀ x ∈ f.ws, wfP x)
theorem Ft.small.n (f : Ft) (h : f.small) : f.ps.length < 4398046511104 ∧ f.ss.length < 2513169434916 ∧ f.ws.length < 4398046511104 := by
  obtain ⟨h0, h1, h2⟩ := h
  exact ⟨by omega, by omega, by omega⟩
structure FtR (w : World) (A0 A1 A2 : Option Addr) (c0 c1 c2 : Nat) (f : Ft) : Prop where
  h0 : Kd.C k37 w A0 f.ps.length f.ps
  l0 : f.ps.length ≤ c0
  h1 : Kd.C k46 w A1 f.ss.length f.ss
  l1 : f.ss.length ≤ c1
  h2 : Kd.C k37 w A2 f.ws.length f.ws
  l2 : f.ws.length ≤ c2
def fv (A0 A1 A2 : Option Addr) (c0 c1 c2 : Nat) (f : Ft) : Value := .agg #[.slice A0 f.ps.length c0, .slice A1 f.ss.length c1, .slice A2 f.ws.length c2]
def FtV (w : World) (v : Value) (f : Ft) : Prop := ∃ A0 A1 A2 c0 c1 c2, v = fv A0 A1 A2 c0 c1 c2 f ∧ FtR w A0 A1 A2 c0 c1 c2 f
theorem FtR.below {w w' : World} {A0 A1 A2 : Option Addr} {c0 c1 c2 : Nat} {f : Ft} (h : FtR w A0 A1 A2 c0 c1 c2 f) (hb : Below w.heap.size w w') : FtR w' A0 A1 A2 c0 c1 c2 f :=
  ⟨Kd.C_below h.h0 hb, h.l0, Kd.C_below h.h1 hb, h.l1, Kd.C_below h.h2 hb, h.l2⟩
theorem FtV.below {w w' : World} {v : Value} {f : Ft} (h : FtV w v f) (hb : Below w.heap.size w w') : FtV w' v f := by
  obtain ⟨A0, A1, A2, c0, c1, c2, e, h⟩ := h
  exact ⟨A0, A1, A2, c0, c1, c2, e, h.below hb⟩
theorem copyV {w : World} {v : Value} {f : Ft} (h : FtV w v f) (hs : f.small) : Calls Tryz.prog 8 #[v] w fun e w' => ∃ v', e = .returned v' ∧ FtV w' v' f ∧ Below w.heap.size w w' := by
  obtain ⟨A0, A1, A2, c0, c1, c2, rfl, h⟩ := h
  have hn := hs.n
  obtain ⟨k, hk⟩ := (copy_ev f.ps f.ss f.ws hn.1 hn.2.1 hn.2.2).ex
  refine (vellumref17_Copy.calls k A0 c0 f.ps A1 c1 f.ss A2 c2 f.ws _ _ _ w h.h0 h.l0 h.h1 h.l1 h.h2 h.l2 hk).mono ?_
  rintro e w' ⟨v0, v1, v2, rfl, r0, r1, r2, hb⟩
  obtain ⟨B0, d0, rfl⟩ := Kd.R_slice r0
  obtain ⟨B1, d1, rfl⟩ := Kd.R_slice r1
  obtain ⟨B2, d2, rfl⟩ := Kd.R_slice r2
  exact ⟨_, rfl, ⟨B0, B1, B2, d0, d1, d2, rfl, (Kd.R_reads' r0).2.2, (Kd.R_reads' r0).2.1, (Kd.R_reads' r1).2.2, (Kd.R_reads' r1).2.1, (Kd.R_reads' r2).2.2, (Kd.R_reads' r2).2.1⟩, hb⟩
theorem sameV {w : World} {v u : Value} {f : Ft} (h : FtV w v f) (h' : FtV w u f) (hs : f.small) : Calls Tryz.prog 10 #[v, u] w fun e w' => e = .returned (.bool true) ∧ Below w.heap.size w w' := by
  obtain ⟨A0, A1, A2, c0, c1, c2, rfl, h⟩ := h
  obtain ⟨B0, B1, B2, d0, d1, d2, rfl, h'⟩ := h'
  have hn := hs.n
  obtain ⟨k, hk⟩ := (same_ev f.ps f.ss f.ws hn.1 hn.2.1 hn.2.2).ex
  exact vellumref17_Same.calls k A0 c0 f.ps A1 c1 f.ss A2 c2 f.ws B0 d0 f.ps B1 d1 f.ss B2 d2 f.ws true w h.h0 h.l0 h.h1 h.l1 h.h2 h.l2 h'.h0 h'.l0 h'.h1 h'.l1 h'.h2 h'.l2 hk
theorem C_ints {W : World} {g : Nat} {l : List Int} (h : W.heap[g]? = some (.cells (l.map (Value.int .i64)).toArray 3 (0, 0))) (hl : l.length ≤ 9223372036854775807 := by simp) : Kd.C (Kd.int .i64) W (some ⟨g, 0, none⟩) l.length l := by
  refine ⟨rfl, hl, fun _ => ⟨_, rfl, fun j p hp => ⟨[.int .i64 p], rfl, rfl, fun i u hu => ?_⟩⟩⟩
  have hi : i = 0 := by
    have := (List.getElem?_eq_some_iff.1 hu).1
    simpa using this
  subst hi
  obtain rfl : Value.int .i64 p = u := by simpa using hu
  have e : (⟨g, 0, none⟩ : Addr).add (j * (Kd.int .i64).sz + 0) = ⟨g, j, none⟩ := by
    show (⟨g, 0, none⟩ : Addr).add (j * 1 + 0) = _
    unfold Addr.add
    split <;> simp_all
  rw [e]
  refine (cell_of h j).trans ?_
  simp [hp]
structure SPl where
  f0 : Int
  f1 : Int
def cmpL (a b : SPl) : Int := if a.f0 = b.f0 then (if a.f1 = b.f1 then 0 else if a.f1 < b.f1 then -1 else 1) else if a.f0 < b.f0 then -1 else 1
theorem or2_ev (a b : Int) : Ev (fun k => cmp_Or_int.f k [a, b]) (if a = 0 then b else a) := by
  refine Ev.from_ 3 (fun k => ?_)
  have e1 : wrap64 (0 + 1) = 1 := wrap64_id (by decide) (by decide)
  have e2 : wrap64 (1 + 1) = 2 := wrap64_id (by decide) (by decide)
  have r0 : rd [a, b] 0 = a := rfl
  have r1 : rd [a, b] 1 = b := rfl
  unfold cmp_Or_int.f
  have hl : (([a, b] : List Int).length : Int) = 2 := rfl
  rw [hl, cmp_Or_int.l0, r0, e1, cmp_Or_int.l0, r1, e2, cmp_Or_int.l0, hl]
  by_cases ha : a = 0
  · by_cases hb : b = 0 <;> simp [ha, hb]
  · simp [ha]
theorem before_gr_spec (a b : S37) : cmpP a b = if (if a.f0 < b.f0 then (-1 : Int) else if b.f0 < a.f0 then 1 else 0) = 0 then (if (if a.f1 < b.f1 then (-1 : Int) else if b.f1 < a.f1 then 1 else 0) = 0 then Lib.compareBytes a.f2.data.toList b.f2.data.toList else (if a.f1 < b.f1 then (-1 : Int) else if b.f1 < a.f1 then 1 else 0)) else (if a.f0 < b.f0 then (-1 : Int) else if b.f0 < a.f0 then 1 else 0) := by
  rw [cmpB_eq]
  unfold cmpP bs
  repeat' split
  all_goals first | rfl | omega
theorem place_gr_spec (a b : SPl) : cmpL a b = if (if a.f0 < b.f0 then (-1 : Int) else if b.f0 < a.f0 then 1 else 0) = 0 then (if a.f1 < b.f1 then (-1 : Int) else if b.f1 < a.f1 then 1 else 0) else (if a.f0 < b.f0 then (-1 : Int) else if b.f0 < a.f0 then 1 else 0) := by
  unfold cmpL
  repeat' split
  all_goals first | rfl | omega
def T64_1 : Bool × List (List Nat × List Nat) := (true, [([], []), ([0], [0]), ([], []), ([2], [2]), ([1, 3], [1, 3]), ([], []), ([5], [5]), ([], []), ([7], [7]), ([6, 8, 4], [6, 8]), ([], []), ([10], [10]), ([], []), ([12], [12]), ([11, 13, 9], [11, 13]), ([4, 9, 14], [4, 9, 14]), ([15, 14], [15]), ([16, 16, 0, 1, 2, 3, 4, 5, 6, 7, 8, 9, 10, 11, 12, 13, 14, 15, 16], [16])])
theorem tab64_1 : rtab .any (opsOf Tryz.f64 1) = T64_1 := by kernel_rfl
def T48_1 : Bool × List (List Nat × List Nat) := (true, [([], []), ([0], [0]), ([], []), ([2], [2]), ([1, 3], [1, 3]), ([], []), ([5], [5]), ([], []), ([7], [7]), ([6, 8, 4], [6, 8]), ([4, 9], [4, 9]), ([10, 9], [10]), ([11, 11, 0, 1, 2, 3, 4, 5, 6, 7, 8, 9, 10, 11], [11])])
theorem tab48_1 : rtab .any (opsOf Tryz.f48 1) = T48_1 := by kernel_rfl
set_option maxHeartbeats 4000000 in
set_option maxRecDepth 100000 in
theorem before_gr (a b : S37) (w : World) : Calls Tryz.prog 64 #[.agg #[.int .i64 a.f0, .int .i64 a.f1, .string a.f2], .agg #[.int .i64 b.f0, .int .i64 b.f1, .string b.f2]] w fun e w' => e = .returned (.int .i64 (cmpP a b)) ∧ Gr w w' := by
  obtain ⟨v0, hv0⟩ : ∃ v : Int, v = (if a.f0 < b.f0 then -1 else if b.f0 < a.f0 then 1 else 0) := ⟨_, rfl⟩
  obtain ⟨v1, hv1⟩ : ∃ v : Int, v = (if a.f1 < b.f1 then -1 else if b.f1 < a.f1 then 1 else 0) := ⟨_, rfl⟩
  obtain ⟨v2, hv2⟩ : ∃ v : Int, v = (Lib.compareBytes a.f2.data.toList b.f2.data.toList) := ⟨_, rfl⟩
  obtain ⟨k, hk⟩ : ∃ k, cmp_Or_int.f k [v0, v1, v2] = some (cmpP a b) := by rw [before_gr_spec, hv0, hv1, hv2]; exact (or3_ev _ _ _).ex
  have HV0 := Aside0.mk hv0
  have HV1 := Aside0.mk hv1
  have HV2 := Aside0.mk hv2
  clear hv0 hv1 hv2
  generalize hW : (w.alloc (.cells #[.int .i64 a.f0, .int .i64 a.f1, .string a.f2] 37)).alloc (.cells #[.int .i64 b.f0, .int .i64 b.f1, .string b.f2] 37) = w1
  have hG : Gr w w1 := by rw [← hW]; exact ((Gr.refl w).alloc _).alloc _
  have b0 : w1.heap[w.heap.size]? = some (.cells #[.int .i64 a.f0, .int .i64 a.f1, .string a.f2] 37) := by rw [← hW]; exact heap_old (heap_new _ _)
  have b1 : w1.heap[w.heap.size + 1]? = some (.cells #[.int .i64 b.f0, .int .i64 b.f1, .string b.f2] 37) := by rw [← hW]; have := heap_new (w.alloc (.cells #[.int .i64 a.f0, .int .i64 a.f1, .string a.f2] 37)) (.cells #[.int .i64 b.f0, .int .i64 b.f1, .string b.f2] 37); rw [size_new] at this; exact this
  have HW := Aside0.mk hW
  have D0 := Aside0.mk b0
  have D1 := Aside0.mk b1
  have HG := Aside0.mk hG
  have HK := Aside0.mk hk
  clear hW b0 b1 hG hk
  go_enter Tryz.func64, Tryz.ntmps64
  go_wp2
  rw [HW.out]
  clear HW
  refine start_ (n := 18) (S := fun w' => w'.cell? ⟨w.heap.size, 0, none⟩ = some (.int .i64 a.f0) ∧ w'.cell? ⟨w.heap.size, 1, none⟩ = some (.int .i64 a.f1) ∧ w'.cell? ⟨w.heap.size, 2, none⟩ = some (.string a.f2) ∧ w'.cell? ⟨w.heap.size + 1, 0, none⟩ = some (.int .i64 b.f0) ∧ w'.cell? ⟨w.heap.size + 1, 1, none⟩ = some (.int .i64 b.f1) ∧ w'.cell? ⟨w.heap.size + 1, 2, none⟩ = some (.string b.f2)) (ds := []) #[false, false, false, false, false, false, false, false, false, false, false, false, false, false, false, false, false, false] (by kernel_rfl) rfl rfl ⟨cell_of D0.out 0, cell_of D0.out 1, cell_of D0.out 2, cell_of D1.out 0, cell_of D1.out 1, cell_of D1.out 2⟩ (fun hHeld => ?_); refine with_tab tab64_1 (fun HT_ => ?_)
  have hbD := below_drew1 (Below.refl w1.heap.size w1)
  have hG2 := HG.out.drew
  generalize w1.drew = w2 at hbD hHeld hG2 ⊢
  have D0_1 := Aside0.mk ((hbD.block _ (lt_of D0.out)).trans D0.out)
  have D1_1 := Aside0.mk ((hbD.block _ (lt_of D1.out)).trans D1.out)
  have HG_1 := Aside0.mk (hG2)
  clear hbD hG2
  refine pure_ (i := 0) (N := some 5) (v := ?_) (a' := ?_) #[true, false, false, false, false, false, false, false, false, false, false, false, false, false, false, false, false, false] rfl rfl (any_of HT_.out (by kernel_rfl)) (fun _ _ _ h => h) (Or.inl ⟨by rfl, ?_⟩) ?_ ?_
  rotate_left
  · intro w'
    go_simp
    with_reducible rfl
  rotate_left
  · simp only [Act.put, List.setIfInBounds_toArray, List.set_cons_zero, List.set_cons_succ, i64_w, i32_w]
    rfl
  refine pure_ (i := 2) (N := some 7) (v := ?_) (a' := ?_) #[true, false, true, false, false, false, false, false, false, false, false, false, false, false, false, false, false, false] rfl rfl (any_of HT_.out (by kernel_rfl)) (fun _ _ _ h => h) (Or.inl ⟨by rfl, ?_⟩) ?_ ?_
  rotate_left
  · intro w'
    go_simp
    with_reducible rfl
  rotate_left
  · simp only [Act.put, List.setIfInBounds_toArray, List.set_cons_zero, List.set_cons_succ, i64_w, i32_w]
    rfl
  refine pure_ (i := 5) (N := some 10) (v := ?_) (a' := ?_) #[true, false, true, false, false, true, false, false, false, false, false, false, false, false, false, false, false, false] rfl rfl (any_of HT_.out (by kernel_rfl)) (fun _ _ _ h => h) (Or.inl ⟨by rfl, ?_⟩) ?_ ?_
  rotate_left
  · intro w'
    go_simp
    with_reducible rfl
  rotate_left
  · simp only [Act.put, List.setIfInBounds_toArray, List.set_cons_zero, List.set_cons_succ, i64_w, i32_w]
    rfl
  refine pure_ (i := 7) (N := some 12) (v := ?_) (a' := ?_) #[true, false, true, false, false, true, false, true, false, false, false, false, false, false, false, false, false, false] rfl rfl (any_of HT_.out (by kernel_rfl)) (fun _ _ _ h => h) (Or.inl ⟨by rfl, ?_⟩) ?_ ?_
  rotate_left
  · intro w'
    go_simp
    with_reducible rfl
  rotate_left
  · simp only [Act.put, List.setIfInBounds_toArray, List.set_cons_zero, List.set_cons_succ, i64_w, i32_w]
    rfl
  refine pure_ (i := 10) (N := some 15) (v := ?_) (a' := ?_) #[true, false, true, false, false, true, false, true, false, false, true, false, false, false, false, false, false, false] rfl rfl (any_of HT_.out (by kernel_rfl)) (fun _ _ _ h => h) (Or.inl ⟨by rfl, ?_⟩) ?_ ?_
  rotate_left
  · intro w'
    go_simp
    with_reducible rfl
  rotate_left
  · simp only [Act.put, List.setIfInBounds_toArray, List.set_cons_zero, List.set_cons_succ, i64_w, i32_w]
    rfl
  refine pure_ (i := 12) (N := some 17) (v := ?_) (a' := ?_) #[true, false, true, false, false, true, false, true, false, false, true, false, true, false, false, false, false, false] rfl rfl (any_of HT_.out (by kernel_rfl)) (fun _ _ _ h => h) (Or.inl ⟨by rfl, ?_⟩) ?_ ?_
  rotate_left
  · intro w'
    go_simp
    with_reducible rfl
  rotate_left
  · simp only [Act.put, List.setIfInBounds_toArray, List.set_cons_zero, List.set_cons_succ, i64_w, i32_w]
    rfl
  refine take_ (i := 1) (N := some 6) (v := ?_) (a' := ?_) #[true, true, true, false, false, true, false, true, false, false, true, false, true, false, false, false, false, false] rfl rfl (take_of HT_.out (by kernel_rfl)) (fun _ _ _ h => h) (Or.inl ⟨by rfl, ?_⟩) hHeld ?_ ?_
  rotate_left
  · rintro w' ⟨s0, s1, s2, s3, s4, s5⟩
    go_simp
    with_reducible rfl
  rotate_left
  · simp only [Act.put, List.setIfInBounds_toArray, List.set_cons_zero, List.set_cons_succ, i64_w, i32_w]
    rfl
  refine take_ (i := 3) (N := some 8) (v := ?_) (a' := ?_) #[true, true, true, true, false, true, false, true, false, false, true, false, true, false, false, false, false, false] rfl rfl (take_of HT_.out (by kernel_rfl)) (fun _ _ _ h => h) (Or.inl ⟨by rfl, ?_⟩) hHeld ?_ ?_
  rotate_left
  · rintro w' ⟨s0, s1, s2, s3, s4, s5⟩
    go_simp
    with_reducible rfl
  rotate_left
  · simp only [Act.put, List.setIfInBounds_toArray, List.set_cons_zero, List.set_cons_succ, i64_w, i32_w]
    rfl
  refine take_ (i := 6) (N := some 11) (v := ?_) (a' := ?_) #[true, true, true, true, false, true, true, true, false, false, true, false, true, false, false, false, false, false] rfl rfl (take_of HT_.out (by kernel_rfl)) (fun _ _ _ h => h) (Or.inl ⟨by rfl, ?_⟩) hHeld ?_ ?_
  rotate_left
  · rintro w' ⟨s0, s1, s2, s3, s4, s5⟩
    go_simp
    with_reducible rfl
  rotate_left
  · simp only [Act.put, List.setIfInBounds_toArray, List.set_cons_zero, List.set_cons_succ, i64_w, i32_w]
    rfl
  refine take_ (i := 8) (N := some 13) (v := ?_) (a' := ?_) #[true, true, true, true, false, true, true, true, true, false, true, false, true, false, false, false, false, false] rfl rfl (take_of HT_.out (by kernel_rfl)) (fun _ _ _ h => h) (Or.inl ⟨by rfl, ?_⟩) hHeld ?_ ?_
  rotate_left
  · rintro w' ⟨s0, s1, s2, s3, s4, s5⟩
    go_simp
    with_reducible rfl
  rotate_left
  · simp only [Act.put, List.setIfInBounds_toArray, List.set_cons_zero, List.set_cons_succ, i64_w, i32_w]
    rfl
  refine take_ (i := 11) (N := some 16) (v := ?_) (a' := ?_) #[true, true, true, true, false, true, true, true, true, false, true, true, true, false, false, false, false, false] rfl rfl (take_of HT_.out (by kernel_rfl)) (fun _ _ _ h => h) (Or.inl ⟨by rfl, ?_⟩) hHeld ?_ ?_
  rotate_left
  · rintro w' ⟨s0, s1, s2, s3, s4, s5⟩
    go_simp
    with_reducible rfl
  rotate_left
  · simp only [Act.put, List.setIfInBounds_toArray, List.set_cons_zero, List.set_cons_succ, i64_w, i32_w]
    rfl
  refine take_ (i := 13) (N := some 18) (v := ?_) (a' := ?_) #[true, true, true, true, false, true, true, true, true, false, true, true, true, true, false, false, false, false] rfl rfl (take_of HT_.out (by kernel_rfl)) (fun _ _ _ h => h) (Or.inl ⟨by rfl, ?_⟩) hHeld ?_ ?_
  rotate_left
  · rintro w' ⟨s0, s1, s2, s3, s4, s5⟩
    go_simp
    with_reducible rfl
  rotate_left
  · simp only [Act.put, List.setIfInBounds_toArray, List.set_cons_zero, List.set_cons_succ, i64_w, i32_w]
    rfl
  refine one_ (i := 4) (N := some 9) #[true, true, true, true, true, true, true, true, true, false, true, true, true, true, false, false, false, false] rfl rfl (one_of HT_.out (by kernel_rfl)) (by decide) (fun K hK => ?_)
  refine goes_ Tryz.func50 (by kernel_rfl) rfl #[.int .i64 a.f0, .int .i64 b.f0] (by rfl) rfl rfl (by (try simp only [List.map_toArray, List.map_cons, List.map_nil]); first | done | rfl) ?_
  refine (cmp_Compare_int.calls _ _ v0 _ (by rw [HV0.out]; exact cmpI_eq a.f0 b.f0)).mono ?_
  rintro e wc4 ⟨rfl, hd⟩
  refine ⟨_, rfl, ?_⟩
  have D0_2 := Aside0.mk ((hd.below.block _ (lt_of D0_1.out)).trans D0_1.out)
  have D1_2 := Aside0.mk ((hd.below.block _ (lt_of D1_1.out)).trans D1_1.out)
  have HG_2 := Aside0.mk (Gr.drawn HG_1.out hd)
  clear hd hHeld
  refine hK.out _ _ ⟨cell_of D0_2.out 0, cell_of D0_2.out 1, cell_of D0_2.out 2, cell_of D1_2.out 0, cell_of D1_2.out 1, cell_of D1_2.out 2⟩ (fun hHeld => ?_)
  clear hK K
  refine norm_ (a' := ?_) ?_ ?_
  rotate_left
  · show Act.put _ (some 9) _ = _
    simp only [Act.put, List.setIfInBounds_toArray, List.set_cons_zero, List.set_cons_succ, i64_w, i32_w]
    rfl
  refine one_ (i := 9) (N := some 14) #[true, true, true, true, true, true, true, true, true, true, true, true, true, true, false, false, false, false] rfl rfl (one_of HT_.out (by kernel_rfl)) (by decide) (fun K hK => ?_)
  refine goes_ Tryz.func50 (by kernel_rfl) rfl #[.int .i64 a.f1, .int .i64 b.f1] (by rfl) rfl rfl (by (try simp only [List.map_toArray, List.map_cons, List.map_nil]); first | done | rfl) ?_
  refine (cmp_Compare_int.calls _ _ v1 _ (by rw [HV1.out]; exact cmpI_eq a.f1 b.f1)).mono ?_
  rintro e wc9 ⟨rfl, hd⟩
  refine ⟨_, rfl, ?_⟩
  have D0_3 := Aside0.mk ((hd.below.block _ (lt_of D0_2.out)).trans D0_2.out)
  have D1_3 := Aside0.mk ((hd.below.block _ (lt_of D1_2.out)).trans D1_2.out)
  have HG_3 := Aside0.mk (Gr.drawn HG_2.out hd)
  clear hd hHeld
  refine hK.out _ _ ⟨cell_of D0_3.out 0, cell_of D0_3.out 1, cell_of D0_3.out 2, cell_of D1_3.out 0, cell_of D1_3.out 1, cell_of D1_3.out 2⟩ (fun hHeld => ?_)
  clear hK K
  refine norm_ (a' := ?_) ?_ ?_
  rotate_left
  · show Act.put _ (some 14) _ = _
    simp only [Act.put, List.setIfInBounds_toArray, List.set_cons_zero, List.set_cons_succ, i64_w, i32_w]
    rfl
  refine one_ (i := 14) (N := some 19) #[true, true, true, true, true, true, true, true, true, true, true, true, true, true, true, false, false, false] rfl rfl (one_of HT_.out (by kernel_rfl)) (by decide) (fun K hK => ?_)
  refine goes_ Tryz.func74 (by kernel_rfl) rfl #[.string a.f2, .string b.f2] (by rfl) rfl rfl (by (try simp only [List.map_toArray, List.map_cons, List.map_nil]); first | done | rfl) ?_
  refine (strings_Compare.calls _ _ v2 _ (by rw [HV2.out]; rfl)).mono ?_
  rintro e wc14 ⟨rfl, hd⟩
  refine ⟨_, rfl, ?_⟩
  have D0_4 := Aside0.mk ((hd.below.block _ (lt_of D0_3.out)).trans D0_3.out)
  have D1_4 := Aside0.mk ((hd.below.block _ (lt_of D1_3.out)).trans D1_3.out)
  have HG_4 := Aside0.mk (Gr.drawn HG_3.out hd)
  clear hd hHeld
  refine hK.out _ _ ⟨cell_of D0_4.out 0, cell_of D0_4.out 1, cell_of D0_4.out 2, cell_of D1_4.out 0, cell_of D1_4.out 1, cell_of D1_4.out 2⟩ (fun hHeld => ?_)
  clear hK K
  refine norm_ (a' := ?_) ?_ ?_
  rotate_left
  · show Act.put _ (some 19) _ = _
    simp only [Act.put, List.setIfInBounds_toArray, List.set_cons_zero, List.set_cons_succ, i64_w, i32_w]
    rfl
  refine one_ (i := 15) (N := some 20) #[true, true, true, true, true, true, true, true, true, true, true, true, true, true, true, true, false, false] rfl rfl (one_of HT_.out (by kernel_rfl)) (by decide) (fun K hK => ?_)
  have hbA := below_alloc (Below.refl wc14.heap.size wc14) (.cells #[.int .i64 v0, .int .i64 v1, .int .i64 v2] 3)
  have hNw := heap_new wc14 (.cells #[.int .i64 v0, .int .i64 v1, .int .i64 v2] 3)
  have hGA := Gr.alloc HG_4.out (.cells #[.int .i64 v0, .int .i64 v1, .int .i64 v2] 3)
  refine value_ (w1 := ?_) (v := ?_) (by rfl) rfl ?_ ?_
  rotate_left
  rotate_left
  · go_simp
    constructor
    · rfl
    · rfl
  show K _ (wc14.alloc (.cells #[.int .i64 v0, .int .i64 v1, .int .i64 v2] 3))
  generalize hbx : wc14.heap.size = bx at hNw ⊢
  have HBX := Aside0.mk hbx; clear hbx
  generalize wc14.alloc (.cells #[.int .i64 v0, .int .i64 v1, .int .i64 v2] 3) = wa at hNw hbA hGA ⊢
  have D0_5 := Aside0.mk ((hbA.block _ (lt_of D0_4.out)).trans D0_4.out)
  have D1_5 := Aside0.mk ((hbA.block _ (lt_of D1_4.out)).trans D1_4.out)
  have HG_5 := Aside0.mk (hGA)
  have HNw := Aside0.mk hNw
  clear hbA hGA hHeld hNw
  refine hK.out _ _ ⟨cell_of D0_5.out 0, cell_of D0_5.out 1, cell_of D0_5.out 2, cell_of D1_5.out 0, cell_of D1_5.out 1, cell_of D1_5.out 2⟩ (fun hHeld => ?_)
  clear hK K
  refine norm_ (a' := ?_) ?_ ?_
  rotate_left
  · show Act.put _ (some 20) _ = _
    simp only [Act.put, List.setIfInBounds_toArray, List.set_cons_zero, List.set_cons_succ, i64_w, i32_w]
    rfl
  refine one_ (i := 16) (N := some 21) #[true, true, true, true, true, true, true, true, true, true, true, true, true, true, true, true, true, false] rfl rfl (one_of HT_.out (by kernel_rfl)) (by decide) (fun K hK => ?_)
  refine goes_ Tryz.func49 (by kernel_rfl) rfl #[.slice (some ⟨bx, 0, none⟩) 3 3] (by rfl) rfl rfl (by (try simp only [List.map_toArray, List.map_cons, List.map_nil]); first | done | rfl) ?_
  refine (cmp_Or_int.calls k (some ⟨bx, 0, none⟩) 3 [v0, v1, v2] _ wa (C_ints (l := [v0, v1, v2]) HNw.out) (Nat.le_refl _) HK.out).mono ?_
  rintro e wo ⟨rfl, hd⟩
  refine ⟨_, rfl, ?_⟩
  have D0_6 := Aside0.mk ((hd.below.block _ (lt_of D0_5.out)).trans D0_5.out)
  have D1_6 := Aside0.mk ((hd.below.block _ (lt_of D1_5.out)).trans D1_5.out)
  have HG_6 := Aside0.mk (Gr.drawn HG_5.out hd)
  clear hd hHeld
  refine hK.out _ _ ⟨cell_of D0_6.out 0, cell_of D0_6.out 1, cell_of D0_6.out 2, cell_of D1_6.out 0, cell_of D1_6.out 1, cell_of D1_6.out 2⟩ (fun hHeld => ?_)
  clear hK K
  refine norm_ (a' := ?_) ?_ ?_
  rotate_left
  · show Act.put _ (some 21) _ = _
    simp only [Act.put, List.setIfInBounds_toArray, List.set_cons_zero, List.set_cons_succ, i64_w, i32_w]
    rfl
  refine pure_ (i := 17) (N := some 4) (v := ?_) (a' := ?_) #[true, true, true, true, true, true, true, true, true, true, true, true, true, true, true, true, true, true] rfl rfl (any_of HT_.out (by kernel_rfl)) (fun _ _ _ h => h) (Or.inl ⟨by rfl, ?_⟩) ?_ ?_
  rotate_left
  · intro w'
    go_simp
    with_reducible rfl
  rotate_left
  · simp only [Act.put, List.setIfInBounds_toArray, List.set_cons_zero, List.set_cons_succ, i64_w, i32_w]
    rfl
  refine done_ (done_of HT_.out (by kernel_rfl)) ?_
  clear hHeld HT_
  go_wp2
  go_ret
  exact ⟨rfl, HG_6.out⟩
set_option maxHeartbeats 4000000 in
set_option maxRecDepth 100000 in
theorem place_gr (a b : SPl) (w : World) : Calls Tryz.prog 48 #[.agg #[.int .i64 a.f0, .int .i64 a.f1], .agg #[.int .i64 b.f0, .int .i64 b.f1]] w fun e w' => e = .returned (.int .i64 (cmpL a b)) ∧ Gr w w' := by
  obtain ⟨v0, hv0⟩ : ∃ v : Int, v = (if a.f0 < b.f0 then -1 else if b.f0 < a.f0 then 1 else 0) := ⟨_, rfl⟩
  obtain ⟨v1, hv1⟩ : ∃ v : Int, v = (if a.f1 < b.f1 then -1 else if b.f1 < a.f1 then 1 else 0) := ⟨_, rfl⟩
  obtain ⟨k, hk⟩ : ∃ k, cmp_Or_int.f k [v0, v1] = some (cmpL a b) := by rw [place_gr_spec, hv0, hv1]; exact (or2_ev _ _).ex
  have HV0 := Aside0.mk hv0
  have HV1 := Aside0.mk hv1
  clear hv0 hv1
  generalize hW : (w.alloc (.cells #[.int .i64 a.f0, .int .i64 a.f1] 69)).alloc (.cells #[.int .i64 b.f0, .int .i64 b.f1] 69) = w1
  have hG : Gr w w1 := by rw [← hW]; exact ((Gr.refl w).alloc _).alloc _
  have b0 : w1.heap[w.heap.size]? = some (.cells #[.int .i64 a.f0, .int .i64 a.f1] 69) := by rw [← hW]; exact heap_old (heap_new _ _)
  have b1 : w1.heap[w.heap.size + 1]? = some (.cells #[.int .i64 b.f0, .int .i64 b.f1] 69) := by rw [← hW]; have := heap_new (w.alloc (.cells #[.int .i64 a.f0, .int .i64 a.f1] 69)) (.cells #[.int .i64 b.f0, .int .i64 b.f1] 69); rw [size_new] at this; exact this
  have HW := Aside0.mk hW
  have D0 := Aside0.mk b0
  have D1 := Aside0.mk b1
  have HG := Aside0.mk hG
  have HK := Aside0.mk hk
  clear hW b0 b1 hG hk
  go_enter Tryz.func48, Tryz.ntmps48
  go_wp2
  rw [HW.out]
  clear HW
  refine start_ (n := 13) (S := fun w' => w'.cell? ⟨w.heap.size, 0, none⟩ = some (.int .i64 a.f0) ∧ w'.cell? ⟨w.heap.size, 1, none⟩ = some (.int .i64 a.f1) ∧ w'.cell? ⟨w.heap.size + 1, 0, none⟩ = some (.int .i64 b.f0) ∧ w'.cell? ⟨w.heap.size + 1, 1, none⟩ = some (.int .i64 b.f1)) (ds := []) #[false, false, false, false, false, false, false, false, false, false, false, false, false] (by kernel_rfl) rfl rfl ⟨cell_of D0.out 0, cell_of D0.out 1, cell_of D1.out 0, cell_of D1.out 1⟩ (fun hHeld => ?_); refine with_tab tab48_1 (fun HT_ => ?_)
  have hbD := below_drew1 (Below.refl w1.heap.size w1)
  have hG2 := HG.out.drew
  generalize w1.drew = w2 at hbD hHeld hG2 ⊢
  have D0_1 := Aside0.mk ((hbD.block _ (lt_of D0.out)).trans D0.out)
  have D1_1 := Aside0.mk ((hbD.block _ (lt_of D1.out)).trans D1.out)
  have HG_1 := Aside0.mk (hG2)
  clear hbD hG2
  refine pure_ (i := 0) (N := some 5) (v := ?_) (a' := ?_) #[true, false, false, false, false, false, false, false, false, false, false, false, false] rfl rfl (any_of HT_.out (by kernel_rfl)) (fun _ _ _ h => h) (Or.inl ⟨by rfl, ?_⟩) ?_ ?_
  rotate_left
  · intro w'
    go_simp
    with_reducible rfl
  rotate_left
  · simp only [Act.put, List.setIfInBounds_toArray, List.set_cons_zero, List.set_cons_succ, i64_w, i32_w]
    rfl
  refine pure_ (i := 2) (N := some 7) (v := ?_) (a' := ?_) #[true, false, true, false, false, false, false, false, false, false, false, false, false] rfl rfl (any_of HT_.out (by kernel_rfl)) (fun _ _ _ h => h) (Or.inl ⟨by rfl, ?_⟩) ?_ ?_
  rotate_left
  · intro w'
    go_simp
    with_reducible rfl
  rotate_left
  · simp only [Act.put, List.setIfInBounds_toArray, List.set_cons_zero, List.set_cons_succ, i64_w, i32_w]
    rfl
  refine pure_ (i := 5) (N := some 10) (v := ?_) (a' := ?_) #[true, false, true, false, false, true, false, false, false, false, false, false, false] rfl rfl (any_of HT_.out (by kernel_rfl)) (fun _ _ _ h => h) (Or.inl ⟨by rfl, ?_⟩) ?_ ?_
  rotate_left
  · intro w'
    go_simp
    with_reducible rfl
  rotate_left
  · simp only [Act.put, List.setIfInBounds_toArray, List.set_cons_zero, List.set_cons_succ, i64_w, i32_w]
    rfl
  refine pure_ (i := 7) (N := some 12) (v := ?_) (a' := ?_) #[true, false, true, false, false, true, false, true, false, false, false, false, false] rfl rfl (any_of HT_.out (by kernel_rfl)) (fun _ _ _ h => h) (Or.inl ⟨by rfl, ?_⟩) ?_ ?_
  rotate_left
  · intro w'
    go_simp
    with_reducible rfl
  rotate_left
  · simp only [Act.put, List.setIfInBounds_toArray, List.set_cons_zero, List.set_cons_succ, i64_w, i32_w]
    rfl
  refine take_ (i := 1) (N := some 6) (v := ?_) (a' := ?_) #[true, true, true, false, false, true, false, true, false, false, false, false, false] rfl rfl (take_of HT_.out (by kernel_rfl)) (fun _ _ _ h => h) (Or.inl ⟨by rfl, ?_⟩) hHeld ?_ ?_
  rotate_left
  · rintro w' ⟨s0, s1, s2, s3⟩
    go_simp
    with_reducible rfl
  rotate_left
  · simp only [Act.put, List.setIfInBounds_toArray, List.set_cons_zero, List.set_cons_succ, i64_w, i32_w]
    rfl
  refine take_ (i := 3) (N := some 8) (v := ?_) (a' := ?_) #[true, true, true, true, false, true, false, true, false, false, false, false, false] rfl rfl (take_of HT_.out (by kernel_rfl)) (fun _ _ _ h => h) (Or.inl ⟨by rfl, ?_⟩) hHeld ?_ ?_
  rotate_left
  · rintro w' ⟨s0, s1, s2, s3⟩
    go_simp
    with_reducible rfl
  rotate_left
  · simp only [Act.put, List.setIfInBounds_toArray, List.set_cons_zero, List.set_cons_succ, i64_w, i32_w]
    rfl
  refine take_ (i := 6) (N := some 11) (v := ?_) (a' := ?_) #[true, true, true, true, false, true, true, true, false, false, false, false, false] rfl rfl (take_of HT_.out (by kernel_rfl)) (fun _ _ _ h => h) (Or.inl ⟨by rfl, ?_⟩) hHeld ?_ ?_
  rotate_left
  · rintro w' ⟨s0, s1, s2, s3⟩
    go_simp
    with_reducible rfl
  rotate_left
  · simp only [Act.put, List.setIfInBounds_toArray, List.set_cons_zero, List.set_cons_succ, i64_w, i32_w]
    rfl
  refine take_ (i := 8) (N := some 13) (v := ?_) (a' := ?_) #[true, true, true, true, false, true, true, true, true, false, false, false, false] rfl rfl (take_of HT_.out (by kernel_rfl)) (fun _ _ _ h => h) (Or.inl ⟨by rfl, ?_⟩) hHeld ?_ ?_
  rotate_left
  · rintro w' ⟨s0, s1, s2, s3⟩
    go_simp
    with_reducible rfl
  rotate_left
  · simp only [Act.put, List.setIfInBounds_toArray, List.set_cons_zero, List.set_cons_succ, i64_w, i32_w]
    rfl
  refine one_ (i := 4) (N := some 9) #[true, true, true, true, true, true, true, true, true, false, false, false, false] rfl rfl (one_of HT_.out (by kernel_rfl)) (by decide) (fun K hK => ?_)
  refine goes_ Tryz.func50 (by kernel_rfl) rfl #[.int .i64 a.f0, .int .i64 b.f0] (by rfl) rfl rfl (by (try simp only [List.map_toArray, List.map_cons, List.map_nil]); first | done | rfl) ?_
  refine (cmp_Compare_int.calls _ _ v0 _ (by rw [HV0.out]; exact cmpI_eq a.f0 b.f0)).mono ?_
  rintro e wc4 ⟨rfl, hd⟩
  refine ⟨_, rfl, ?_⟩
  have D0_2 := Aside0.mk ((hd.below.block _ (lt_of D0_1.out)).trans D0_1.out)
  have D1_2 := Aside0.mk ((hd.below.block _ (lt_of D1_1.out)).trans D1_1.out)
  have HG_2 := Aside0.mk (Gr.drawn HG_1.out hd)
  clear hd hHeld
  refine hK.out _ _ ⟨cell_of D0_2.out 0, cell_of D0_2.out 1, cell_of D1_2.out 0, cell_of D1_2.out 1⟩ (fun hHeld => ?_)
  clear hK K
  refine norm_ (a' := ?_) ?_ ?_
  rotate_left
  · show Act.put _ (some 9) _ = _
    simp only [Act.put, List.setIfInBounds_toArray, List.set_cons_zero, List.set_cons_succ, i64_w, i32_w]
    rfl
  refine one_ (i := 9) (N := some 14) #[true, true, true, true, true, true, true, true, true, true, false, false, false] rfl rfl (one_of HT_.out (by kernel_rfl)) (by decide) (fun K hK => ?_)
  refine goes_ Tryz.func50 (by kernel_rfl) rfl #[.int .i64 a.f1, .int .i64 b.f1] (by rfl) rfl rfl (by (try simp only [List.map_toArray, List.map_cons, List.map_nil]); first | done | rfl) ?_
  refine (cmp_Compare_int.calls _ _ v1 _ (by rw [HV1.out]; exact cmpI_eq a.f1 b.f1)).mono ?_
  rintro e wc9 ⟨rfl, hd⟩
  refine ⟨_, rfl, ?_⟩
  have D0_3 := Aside0.mk ((hd.below.block _ (lt_of D0_2.out)).trans D0_2.out)
  have D1_3 := Aside0.mk ((hd.below.block _ (lt_of D1_2.out)).trans D1_2.out)
  have HG_3 := Aside0.mk (Gr.drawn HG_2.out hd)
  clear hd hHeld
  refine hK.out _ _ ⟨cell_of D0_3.out 0, cell_of D0_3.out 1, cell_of D1_3.out 0, cell_of D1_3.out 1⟩ (fun hHeld => ?_)
  clear hK K
  refine norm_ (a' := ?_) ?_ ?_
  rotate_left
  · show Act.put _ (some 14) _ = _
    simp only [Act.put, List.setIfInBounds_toArray, List.set_cons_zero, List.set_cons_succ, i64_w, i32_w]
    rfl
  refine one_ (i := 10) (N := some 15) #[true, true, true, true, true, true, true, true, true, true, true, false, false] rfl rfl (one_of HT_.out (by kernel_rfl)) (by decide) (fun K hK => ?_)
  have hbA := below_alloc (Below.refl wc9.heap.size wc9) (.cells #[.int .i64 v0, .int .i64 v1] 3)
  have hNw := heap_new wc9 (.cells #[.int .i64 v0, .int .i64 v1] 3)
  have hGA := Gr.alloc HG_3.out (.cells #[.int .i64 v0, .int .i64 v1] 3)
  refine value_ (w1 := ?_) (v := ?_) (by rfl) rfl ?_ ?_
  rotate_left
  rotate_left
  · go_simp
    constructor
    · rfl
    · rfl
  show K _ (wc9.alloc (.cells #[.int .i64 v0, .int .i64 v1] 3))
  generalize hbx : wc9.heap.size = bx at hNw ⊢
  have HBX := Aside0.mk hbx; clear hbx
  generalize wc9.alloc (.cells #[.int .i64 v0, .int .i64 v1] 3) = wa at hNw hbA hGA ⊢
  have D0_4 := Aside0.mk ((hbA.block _ (lt_of D0_3.out)).trans D0_3.out)
  have D1_4 := Aside0.mk ((hbA.block _ (lt_of D1_3.out)).trans D1_3.out)
  have HG_4 := Aside0.mk (hGA)
  have HNw := Aside0.mk hNw
  clear hbA hGA hHeld hNw
  refine hK.out _ _ ⟨cell_of D0_4.out 0, cell_of D0_4.out 1, cell_of D1_4.out 0, cell_of D1_4.out 1⟩ (fun hHeld => ?_)
  clear hK K
  refine norm_ (a' := ?_) ?_ ?_
  rotate_left
  · show Act.put _ (some 15) _ = _
    simp only [Act.put, List.setIfInBounds_toArray, List.set_cons_zero, List.set_cons_succ, i64_w, i32_w]
    rfl
  refine one_ (i := 11) (N := some 16) #[true, true, true, true, true, true, true, true, true, true, true, true, false] rfl rfl (one_of HT_.out (by kernel_rfl)) (by decide) (fun K hK => ?_)
  refine goes_ Tryz.func49 (by kernel_rfl) rfl #[.slice (some ⟨bx, 0, none⟩) 2 2] (by rfl) rfl rfl (by (try simp only [List.map_toArray, List.map_cons, List.map_nil]); first | done | rfl) ?_
  refine (cmp_Or_int.calls k (some ⟨bx, 0, none⟩) 2 [v0, v1] _ wa (C_ints (l := [v0, v1]) HNw.out) (Nat.le_refl _) HK.out).mono ?_
  rintro e wo ⟨rfl, hd⟩
  refine ⟨_, rfl, ?_⟩
  have D0_5 := Aside0.mk ((hd.below.block _ (lt_of D0_4.out)).trans D0_4.out)
  have D1_5 := Aside0.mk ((hd.below.block _ (lt_of D1_4.out)).trans D1_4.out)
  have HG_5 := Aside0.mk (Gr.drawn HG_4.out hd)
  clear hd hHeld
  refine hK.out _ _ ⟨cell_of D0_5.out 0, cell_of D0_5.out 1, cell_of D1_5.out 0, cell_of D1_5.out 1⟩ (fun hHeld => ?_)
  clear hK K
  refine norm_ (a' := ?_) ?_ ?_
  rotate_left
  · show Act.put _ (some 16) _ = _
    simp only [Act.put, List.setIfInBounds_toArray, List.set_cons_zero, List.set_cons_succ, i64_w, i32_w]
    rfl
  refine pure_ (i := 12) (N := some 4) (v := ?_) (a' := ?_) #[true, true, true, true, true, true, true, true, true, true, true, true, true] rfl rfl (any_of HT_.out (by kernel_rfl)) (fun _ _ _ h => h) (Or.inl ⟨by rfl, ?_⟩) ?_ ?_
  rotate_left
  · intro w'
    go_simp
    with_reducible rfl
  rotate_left
  · simp only [Act.put, List.setIfInBounds_toArray, List.set_cons_zero, List.set_cons_succ, i64_w, i32_w]
    rfl
  refine done_ (done_of HT_.out (by kernel_rfl)) ?_
  clear hHeld HT_
  go_wp2
  go_ret
  exact ⟨rfl, HG_5.out⟩
end Go.Proofs.YtldlenjfpjihdaaGreat.PS
end
section
namespace Go.Proofs.YtldlenjfpjihdaaGreat.PS
open Go Go.RowKit Go.Maps Go.WideMaps Go.Sort Go.Shelf Go.Proofs Go.Proofs.YtldlenjfpjihdaaGreatW.PrintWords
set_option linter.unusedVariables false
set_option linter.unusedSimpArgs false
theorem PPkeyed : Keyed Tryz.prog 37 := kmap
theorem PPsame (x : S37) : (pk x).sameKey (pk x) = true := by simp [pk, Lit.sameKey]
theorem PPdiffer {x y : S37} (hx : wfP x) (hy : wfP y) (hne : x ≠ y) : (pk x).sameKey (pk y) = false := by
  rw [← Bool.not_eq_true]
  intro h
  refine hne (pk_inj hx hy ?_)
  simpa [pk, Lit.sameKey] using h
theorem PPmk_inj {x y : S37} (h : pv x = pv y) : x = y := pv_inj h
def PPColl {H : Type} (D0 : DataW H) (left : Lit → Bool) (ss : List S37) : Prop := ss.Nodup ∧ ∀ x, x ∈ ss ↔ (wfP x ∧ has D0 (pk x) = true ∧ left (pk x) = false)
theorem PPColl.start {H : Type} (D0 : DataW H) : PPColl D0 (has D0) [] := ⟨List.nodup_nil, fun x => by cases has D0 (pk x) <;> simp⟩
theorem PPColl.step {H : Type} {D0 : DataW H} {left : Lit → Bool} {ss : List S37} (h : PPColl D0 left ss) {x : S37} (hx : wfP x) {y : DataW H} (hlk : left (pk x) = true) (hat : ∀ zd, D0.atKey (pk x) zd = y) :
    PPColl D0 (fun z => left z && !z.sameKey (pk x)) (ss ++ [x]) := by
  have hhas : has D0 (pk x) = true := has_true_of_atKey hat
  have hnew : x ∉ ss := fun hm => by have := ((h.2 x).1 hm).2.2; rw [hlk] at this; cases this
  refine ⟨List.nodup_append.2 ⟨h.1, by simp, fun a ha b hb => by simp at hb; subst hb; exact fun e => hnew (e ▸ ha)⟩, fun y => ?_⟩
  by_cases hy : y = x
  · subst hy; simp [hhas, hx, PPsame]
  · by_cases hwy : wfP y
    · have hne : (pk y).sameKey (pk x) = false := PPdiffer hwy hx hy
      simp [h.2 y, hy, hne, hwy]
    · have hn : y ∉ ss := fun hm => hwy ((h.2 y).1 hm).1
      simp [hn, hy, hwy]
theorem PPenc_inj {x y : S37} (h : pv x = pv y) : x = y := PPmk_inj h
set_option maxRecDepth 100000 in
set_option maxHeartbeats 2000000 in
/-- The iterator: the keys come, each once. -/
theorem PPkeys1 {H : Type} (F : Fence) (n : Nat) (h10 : F.fn 89) (hro : F.round = none) (hn : 1 ≤ n) (l Bm b nn : Nat) (D0 : DataW H) {R : Value → Option (DataW H × List MemPlace)} (J : List S37 → World → Prop)
    (hY : ∀ pre x W, wfP x → J pre W → pre.length < Maps.size D0 → YieldAt F (n - 1) Tryz.prog l #[pv x] W fun e W' => e = .returned (.bool true) ∧ J (pre ++ [x]) W' ∧ KeepsWalks W W')
    (W : World) (hJ : AbidesFrom W.heap.size J) (hm : W.cell? ⟨Bm, 0, none⟩ = some (.map (some b))) (hown : W.ownsMap Tryz.prog 37 R b nn D0) (h0 : J [] W) :
    CallsIn F n Tryz.prog 89 #[.func (.yield l) #[] #[], .pointer (some ⟨Bm, 0, none⟩)] W fun e W' => (∃ v, e = .returned v) ∧ ∃ ss : List S37, ss.length ≤ Maps.size D0 ∧ PPColl D0 (fun _ => false) ss ∧ J ss W' := by
  have hK := PPkeyed
  refine callsIn_of_wp Tryz.func89 rfl h10 ?_ hro
  simp only [Tryz.ntmps89, Tryz.f89, List.size_toArray, List.length_cons, List.length_nil, Nat.reduceAdd, Nat.reduceSub, Array.replicate_succ, Array.replicate_zero, List.push_toArray, List.append_toArray, List.nil_append, List.cons_append]
  gi_wp2_with (first
    | (gi_at_range; refine wpListIn_range_own _ rfl _ 59 rfl 37 60 hK Tryz.underlying59 _ b nn _ rfl hown ?_; intro w0 hrg0 hg0 hs0)
    | gi_in)
  go_frame
  gi_loopw [3] (fun _ wr => ∃ (left : Lit → Bool) (cnt : Nat) (ss : List S37), wr.ranges Tryz.prog 37 R b W.heap.size nn D0 left cnt ∧ ss.length + cnt ≤ Maps.size D0 ∧ PPColl D0 left ss ∧ J ss wr)
    (fun _ wr => wr.rangeLeft b W.heap.size)
  case atStart =>
    exact ⟨_, _, [], hrg0, by simp, PPColl.start D0, hJ [] W w0 none h0 hg0 (fun r e => by cases e)⟩
  case round =>
    obtain ⟨left, cnt, ss, hrg, hcs, hC, hJs⟩ := hrel
    gi_wp2_with (first
      | (gi_at_next; refine wpListIn_next_ranges _ rfl _ rfl 37 hK R pv id (fun key kl hk => by obtain ⟨x, hx, _⟩ := PPinv hk; exact ⟨x, hx⟩) (fun v _ _ => ⟨v, rfl⟩) b W.heap.size nn _ _ _ rfl hrg ?_ ?_)
      | gi_in)
    · intro hc0 hl0
      gi_wp2
      go_end0
      refine ⟨⟨_, rfl⟩, ss, by omega, ⟨hC.1, fun x => by rw [hC.2 x, hl0]⟩, hJs⟩
    · intro x c kl yd yp w2 cnt2 hkey hlk hv hat hrg2 hlt hg2 hs2 hen
      obtain ⟨x', ex, hwx, rfl⟩ := PPinv hkey
      obtain rfl : x = x' := PPenc_inj ex
      have hJ2 : J ss w2 := hJ ss wr w2 (some W.heap.size) hJs hg2 (fun r e => by cases e; exact ⟨Nat.le_refl _, hrg.iter_walk⟩)
      clear hs2
      obtain ⟨wb, hwb⟩ : ∃ wb, w2.alloc (.cells (enc37 x).toArray 37) = wb := ⟨_, rfl⟩
      have hgb : w2.grownBy wb none := by rw [← hwb]; exact ⟨rfl, rfl, rfl, by simp, fun i hi hne => Below.heap_alloc w2 _ i hi⟩
      have hkb : KeepsWalks w2 wb := by rw [← hwb]; exact KeepsWalks.alloc _ _
      have hJb : J ss wb := hJ ss w2 wb none hJ2 hgb (fun r e => by cases e)
      obtain ⟨fn, tmps, assign, body, hy, hR⟩ := hY ss x wb hwx hJb (by omega)
      unfold pv at hen ex hkey hy
      unfold enc37 at hwb
      have HWB := Aside0.mk hwb
      clear hwb
      gi_wp2_with fail
      rw [show (w2.alloc (.cells #[.int .i64 x.f0, .int .i64 x.f1, .string x.f2] 37)) = wb from HWB.out]
      rw [hy]
      gi_wp2
      refine hR.mono ?_
      rintro e W3 ⟨rfl, hJ3, hk3⟩
      gi_wp2
      have hrg3 := hrg2.of_walks (hkb.trans hk3)
      go_roundw
      case rel => exact ⟨_, cnt2, ss ++ [x], hrg3, by simp; omega, hC.step hwx hlk hat, hJ3⟩
      case measure => rw [hrg3.left_eq, hrg.left_eq]; exact hlt
set_option maxHeartbeats 1000000 in
/-- maps.Keys(m): the map is boxed; the function value captures the box. -/
theorem PPkeys (mb : Option Nat) (w : World) :
    Calls Tryz.prog 76 #[.map mb] w fun e w' => e = .returned (.func (.func 89) #[] #[.pointer (some ⟨w.heap.size, 0, none⟩)]) ∧ w' = w.alloc (.cells #[.map mb] 59) := by
  go_enter Tryz.func76, Tryz.ntmps76
  go_wp2
  go_ret
  exact ⟨rfl, rfl⟩
theorem PPgives {H : Type} (F : Fence) (n : Nat) (h10 : F.fn 89) (hro : F.round = none) (hn : 1 ≤ n) (Bm b nn : Nat) (D0 : DataW H) {R : Value → Option (DataW H × List MemPlace)} (w : World) (hBm : Bm < w.heap.size)
    (hm : w.cell? ⟨Bm, 0, none⟩ = some (.map (some b))) (hown : w.ownsMap Tryz.prog 37 R b nn D0) :
    SeqGives F n Tryz.prog 89 #[.pointer (some ⟨Bm, 0, none⟩)] pv (fun ss => ss.length ≤ Maps.size D0 ∧ PPColl D0 (fun _ => false) ss) (Maps.size D0) w := fun l J W hW hJ hY h0 => by
  have hown' : W.ownsMap Tryz.prog 37 R b nn D0 := by
    have hbl := hown.lt
    obtain ⟨es, clock, hb, Ft, hs, hD⟩ := hown
    exact ⟨es, clock, (hW.block b hbl).trans hb, Ft, hs, hD⟩
  refine (PPkeys1 F n h10 hro hn l Bm b nn D0 J (fun pre x W _ hp hl => hY pre x W hp hl) W hJ ((hW.cell (p := ⟨Bm, 0, none⟩) hBm).trans hm) hown' h0).mono ?_
  rintro e W' ⟨h1, ss, h2, h3, h4⟩
  exact ⟨h1, ss, ⟨h2, h3⟩, h4⟩
def PPapAssign : Code := (Code.region 2 #[{ dst := some 5, op := Op.alloc 37, type := 0, pos := "iter.go:51", after := #[], guard := none }, { dst := none, op := Op.store 37 (Operand.tmp 5) (Operand.tmp 7), type := 0, pos := "iter.go:51", after := #[{ on := 0, ground := Ground.data }, { on := 0, ground := Ground.phase }], guard := none }] false)
def PPapBody : Code := (Code.block 1 (Code.region 3 #[{ dst := some 8, op := Op.load 22 (Operand.tmp 2), type := 22, pos := "iter.go:52", after := #[], guard := none }, { dst := some 9, op := Op.load 37 (Operand.tmp 5), type := 37, pos := "iter.go:52", after := #[], guard := none }, { dst := some 10, op := Op.buildSlice 22 1 #[(0, Operand.tmp 9)], type := 22, pos := "iter.go:52", after := #[{ on := 1, ground := Ground.data }], guard := none }, { dst := some 11, op := Op.call { callee := Callee.builtin Builtin.append, args := #[Operand.tmp 8, Operand.tmp 10], argTypes := #[22, 22] }, type := 22, pos := "iter.go:52", after := #[{ on := 0, ground := Ground.data }, { on := 2, ground := Ground.data }], guard := none }, { dst := none, op := Op.store 22 (Operand.tmp 2) (Operand.tmp 11), type := 0, pos := "iter.go:52", after := #[{ on := 3, ground := Ground.data }, { on := 3, ground := Ground.chain }, { on := 0, ground := Ground.phase }, { on := 1, ground := Ground.phase }, { on := 2, ground := Ground.phase }, { on := 3, ground := Ground.phase }], guard := none }] false))
def PPapRec (fn : FuncId) (sv : Value) (Bs D : Nat) (st : LoopState) (pend : Option Code) : Loop :=
  { state := st, pending := pend, fn, tmps := #[.slice none 0 0, sv, .pointer (some ⟨Bs, 0, none⟩), undef, .slice none 0 0, undef, sv, undef, undef, undef, undef, undef, undef], params := #[7], assign := PPapAssign, body := PPapBody, defers := D }
structure PPApAt (w0 : World) (fn : FuncId) (sv : Value) (Bs l D : Nat) (ss : List S37) (W : World) : Prop where
  box : ∃ v, W.heap[Bs]? = some (.cells #[v] 22 (0, 0)) ∧ W.ownsRow w0.heap.size 37 3 v ss.length (ss.flatMap enc37) ∧ (v = .slice none 0 0 ↔ ss = [])
  L : W.heap[l]? = some (.loop (PPapRec fn sv Bs D .ready none))
  K : W.heap[D]? = some (.deferred (some []))
  below : Below w0.heap.size w0 W
theorem PPap_abides (w0 : World) (fn : FuncId) (sv : Value) (Bs l D B : Nat) (hB : w0.heap.size ≤ B) : AbidesFrom B (PPApAt w0 fn sv Bs l D) := fun s W W' row h hg hrow => by
  have hrow' : ∀ r, row = some r → ∃ o : Obj, W.heap[r]? = some o ∧ o.isWalk = true := fun r e => (hrow r e).2
  obtain ⟨v, hv, hr, hn⟩ := h.box
  exact ⟨⟨v, (grownBy_keeps hg hrow' hv rfl).trans hv, ownsRow_abides_a hr hg hrow', hn⟩, (grownBy_keeps hg hrow' h.L rfl).trans h.L, (grownBy_keeps hg hrow' h.K rfl).trans h.K,
    h.below.grown hg h.below.size (fun k e => Nat.le_trans hB (hrow k e).1)⟩
set_option maxRecDepth 100000 in
set_option maxHeartbeats 4000000 in
theorem PPapYield (F : Fence) (m : Nat) (w0 : World) (fn : FuncId) (hfn : F.fn fn) (sv : Value) (Bs l D : Nat) (hBl : Bs ≠ l) (hDl : D ≠ l) (hDB : D ≠ Bs) (h0B : w0.heap.size ≤ Bs) (h0l : w0.heap.size ≤ l)
    (N : Nat) (hN : N ≤ maxLen) (hNb : N * 32 ≤ 140737488355328) (ss : List S37) (x : S37) (W : World) (h : PPApAt w0 fn sv Bs l D ss W) (hlen : ss.length < N) :
    YieldAt F m Tryz.prog l #[pv x] W fun e W' => e = .returned (.bool true) ∧ PPApAt w0 fn sv Bs l D (ss ++ [x]) W' ∧ KeepsWalks W W' := by
  obtain ⟨i0, hi, hz0, hz1, hz2⟩ := info_parts info37U
  obtain ⟨v, hv, hrow, _⟩ := h.box
  refine ⟨fn, #[.slice none 0 0, sv, .pointer (some ⟨Bs, 0, none⟩), undef, .slice none 0 0, undef, sv, pv x, undef, undef, undef, undef, undef], PPapAssign, PPapBody, by simpa [PPapRec] using run_yield (P := Tryz.prog) (args := #[pv x]) h.L rfl, roundIn_of_wpIn hfn ?_⟩
  have hl0 : l < W.heap.size := (Array.getElem?_eq_some_iff.1 h.L).1
  have hB0 : Bs < W.heap.size := (Array.getElem?_eq_some_iff.1 hv).1
  have hD0 : D < W.heap.size := (Array.getElem?_eq_some_iff.1 h.K).1
  obtain ⟨wa, hwa⟩ : ∃ wa, W.alloc (.cells (enc37 x).toArray 37) = wa := ⟨_, rfl⟩
  have hxa : wa.heap[W.heap.size]? = some (.cells (enc37 x).toArray 37 (0, 0)) := by rw [← hwa]; exact World.alloc_heap_new W _
  have hsa : wa.heap.size = W.heap.size + 1 := by rw [← hwa]; simp
  have holda : ∀ k, k < W.heap.size → wa.heap[k]? = W.heap[k]? := fun k hk => by rw [← hwa]; exact Below.heap_alloc _ _ k hk
  have hrowa : wa.ownsRow w0.heap.size 37 3 v ss.length (ss.flatMap enc37) := by rw [← hwa]; exact hrow.alloc _
  have hka : KeepsWalks W wa := by rw [← hwa]; exact KeepsWalks.alloc _ _
  have hba : Below w0.heap.size w0 wa := by rw [← hwa]; exact h.below.alloc h.below.size _
  have hLa : wa.heap[l]? = some (.loop (PPapRec fn sv Bs D .ready none)) := (holda l hl0).trans h.L
  have hva := (holda Bs hB0).trans hv
  have hKa := (holda D hD0).trans h.K
  have hbr := run_beginRound (P := Tryz.prog) hLa rfl
  obtain ⟨wb, hW2⟩ : ∃ wb, wa.putObj l (.loop { PPapRec fn sv Bs D .ready none with state := .busy }) = wb := ⟨_, rfl⟩
  rw [hW2] at hbr
  have hg2 : wa.grownBy wb (some l) := by rw [← hW2]; exact grownBy_putObj_a _ _ _
  have hk2 : KeepsWalks wa wb := by rw [← hW2]; exact KeepsWalks.putObj _ hLa rfl
  have hvb : wb.heap[Bs]? = some (.cells #[v] 22 (0, 0)) := by rw [← hW2]; exact (World.putObj_heap_other hBl).trans hva
  have hKb : wb.heap[D]? = some (.deferred (some [])) := by rw [← hW2]; exact (World.putObj_heap_other hDl).trans hKa
  have hLb : wb.heap[l]? = some (.loop { PPapRec fn sv Bs D .ready none with state := .busy }) := by rw [← hW2]; exact World.putObj_heap_same (by omega)
  have hxb : wb.heap[W.heap.size]? = some (.cells (enc37 x).toArray 37 (0, 0)) := by rw [← hW2]; exact (World.putObj_heap_other (by omega)).trans hxa
  have hrowb : wb.ownsRow w0.heap.size 37 3 v ss.length (ss.flatMap enc37) := hrowa.kept hg2 (ownsRow_ne_a hrowa hLa (fun cur e => by cases e))
  have hbb : Below w0.heap.size w0 wb := hba.grown hg2 hba.size (fun k e => by cases e; exact h0l)
  have hBlt : Bs < wb.heap.size := (Array.getElem?_eq_some_iff.1 hvb).1
  have hl2 : l < wb.heap.size := (Array.getElem?_eq_some_iff.1 hLb).1
  have hDlt : D < wb.heap.size := (Array.getElem?_eq_some_iff.1 hKb).1
  obtain ⟨hcb, hfb⟩ := cell_of_box_a hvb
  have hxc : ∀ j, wb.cell? ⟨W.heap.size, j, none⟩ = (enc37 x).toArray[j]? := fun j => by simp [World.cell?, hxb]
  have ne_of : ∀ {j : Nat} {o : Obj}, wb.heap[j]? = some o → (∀ cur, o ≠ .cells cur 37 (0, 0)) → some j ≠ v.ownBlock := fun hj hno => by
    rcases ownsRow_ne_a hrowb hj hno with e | e
    · rw [e]; simp
    · exact fun e' => e e'.symm
  have hxc0 : wb.cell? ⟨W.heap.size, 0, none⟩ = some (.int .i64 x.f0) := hxc 0
  have hxc1 : wb.cell? ⟨W.heap.size, 1, none⟩ = some (.int .i64 x.f1) := hxc 1
  have hxc2 : wb.cell? ⟨W.heap.size, 2, none⟩ = some (.string x.f2) := hxc 2
  clear hxc
  have HWA := Aside0.mk hwa
  clear hwa hW2 hsa holda
  unfold PPapAssign pv
  unfold enc37 at HWA
  gi_wp2_with gi_round_op_a
  rw [show (W.alloc (.cells #[.int .i64 x.f0, .int .i64 x.f1, .string x.f2] 37)) = wa from HWA.out]
  refine ⟨_, hbr, ?_⟩
  unfold PPapBody
  gi_wp2_with (first
    | (gi_at_builtin; refine wpListIn_append_own _ rfl _ _ 22 rfl w0.heap.size 37 i0 _ 3 32 Tryz.underlying22 hi hz0 hz1 hz2 rfl (by decide) _ _ _ rfl (hrowb.alloc _) ⟨wb.heap.size, 0, none⟩ 1 1 (enc37 x) rfl rfl (World.news_of_block (World.alloc_heap_new wb _)) (by intro u hu; simp [enc37] at hu; rcases hu with rfl | rfl | rfl <;> rfl) (by omega) (by omega) (by have := hbb.size; simp; omega) ?_; intro v' w3 hown' hg3 hnil3
       have hv3 : w3.heap[Bs]? = some (.cells #[v] 22 (0, 0)) := (hg3.block Bs (by simp; omega) (ne_of hvb (fun cur e => by cases e))).trans ((Below.heap_alloc _ _ Bs (by omega)).trans hvb)
       obtain ⟨hc3, hf3⟩ := cell_of_box_a hv3
       obtain ⟨g', cap', cur', rfl, hbase', hgb', hr1, hr2, hr3, hr4⟩ : ∃ g' cap' cur', v' = .slice (some ⟨g', 0, none⟩) (ss.length + 1) cap' ∧ w0.heap.size ≤ g' ∧ w3.heap[g']? = some (.cells cur' 37 (0, 0)) ∧ ss.length + 1 ≤ cap' ∧ cap' ≤ maxLen ∧ cur'.size = cap' * 3 ∧ cur'.toList.take ((ss.length + 1) * 3) = ss.flatMap enc37 ++ enc37 x := by
         rcases hown'.2 with ⟨_, h0⟩ | h'
         · exact absurd h0 (by omega)
         · exact h'
       go_frame)
    | gi_round_op_a)
  have hg3' : (wb.alloc (.cells (enc37 x).toArray 37)).grownBy w3 v.ownBlock := hg3
  have hL3 : w3.heap[l]? = some (.loop { PPapRec fn sv Bs D .ready none with state := .busy }) := (hg3'.block l (by simp; omega) (ne_of hLb (fun cur e => by cases e))).trans ((Below.heap_alloc _ _ l (by omega)).trans hLb)
  have hK3 : w3.heap[D]? = some (.deferred (some [])) := (hg3'.block D (by simp; omega) (ne_of hKb (fun cur e => by cases e))).trans ((Below.heap_alloc _ _ D (by omega)).trans hKb)
  obtain ⟨w4, hw4⟩ : ∃ w4, w3.setCell ⟨Bs, 0, none⟩ (.slice (some ⟨g', 0, none⟩) (ss.length + 1) cap') = w4 := ⟨_, rfl⟩
  rw [hw4]
  have hg4 : w3.grownBy w4 (some Bs) := by rw [← hw4]; exact grownBy_setCell0_a _ _ _
  have hv4 : w4.heap[Bs]? = some (.cells #[.slice (some ⟨g', 0, none⟩) (ss.length + 1) cap'] 22 (0, 0)) := by rw [← hw4]; exact heap_setCell_box_a _ hv3
  have hL4 : w4.heap[l]? = some (.loop { PPapRec fn sv Bs D .ready none with state := .busy }) := (hg4.block l (Array.getElem?_eq_some_iff.1 hL3).1 (fun e => hBl (by cases e; rfl))).trans hL3
  have hK4 : w4.heap[D]? = some (.deferred (some [])) := (hg4.block D (Array.getElem?_eq_some_iff.1 hK3).1 (fun e => hDB (by cases e; rfl))).trans hK3
  have hrow4 := hown'.kept hg4 (ownsRow_ne_a hown' hv3 (fun cur e => by cases e))
  have hl4 : l < w4.heap.size := (Array.getElem?_eq_some_iff.1 hL4).1
  have hb3 : Below w0.heap.size w0 w3 := (hbb.alloc hbb.size _).grown hg3' (by have := hbb.size; simp; omega) (fun k e => (hrowb.lt k e).1)
  have hb4 : Below w0.heap.size w0 w4 := hb3.grown hg4 hb3.size (fun k e => by cases e; exact h0B)
  have hk4 : KeepsWalks W w4 := (((hka.trans hk2).trans (KeepsWalks.alloc _ _)).trans (KeepsWalks.of_grownBy hg3' (ownsRow_not_walk_a (hrowb.alloc _)))).trans (by rw [← hw4]; exact KeepsWalks.setCell _ _ _)
  clear hw4
  refine ⟨_, _, run_endRound none hL4, rfl, ⟨⟨_, (World.putObj_heap_other hBl).trans hv4, ?_, by simp⟩, World.putObj_heap_same hl4, (World.putObj_heap_other hDl).trans hK4, hb4.grown (grownBy_putObj_a _ _ _) hb4.size (fun k e => by cases e; exact h0l)⟩, hk4.trans (KeepsWalks.putObj _ hL4 rfl)⟩
  have := hrow4.kept (grownBy_putObj_a w4 l (.loop { { PPapRec fn sv Bs D .ready none with state := .busy } with state := if (none : Option Code).isNone then .ready else .done, pending := none })) (ownsRow_ne_a hrow4 hL4 (fun cur e => by cases e))
  simpa [List.flatMap_append] using this
set_option maxRecDepth 100000 in
set_option maxHeartbeats 4000000 in
/-- slices.AppendSeq(nil, seq). -/
theorem PPappendSeq (F : Fence) (n : Nat) (h11 : F.fn 110) (hro : F.round = none) (hn : 2 ≤ n) (g : Nat) (lb : Array Value) (hFg : F.fn g) (eg : ∀ args w, (callFunc g args).run Tryz.prog w = .ok (.enter g args) w)
    (S : List S37 → Prop) (N : Nat) (hN : N ≤ maxLen) (hNb : N * 32 ≤ 140737488355328) (w : World) (hseq : SeqGives F (n - 1) Tryz.prog g lb pv S N w) :
    CallsIn F n Tryz.prog 110 #[.slice none 0 0, .func (.func g) #[] lb] w fun e w' => ∃ (v : Value) (ss : List S37), e = .returned v ∧ S ss ∧ w'.ownsRow w.heap.size 37 3 v ss.length (ss.flatMap enc37) ∧ (v = .slice none 0 0 ↔ ss = []) ∧ Below w.heap.size w w' := by
  have h1 : 1 ≤ n := by omega
  refine callsIn_of_wp_marks Tryz.func110 rfl h11 ?_ hro
  simp only [Tryz.ntmps110, List.size_toArray, List.length_cons, List.length_nil, Nat.reduceAdd, Nat.reduceSub, Array.replicate_succ, Array.replicate_zero, List.push_toArray, List.append_toArray, List.nil_append, List.cons_append]
  gi_wp2
  refine wpIn_rangeFunc ?_
  intro fn hfn
  rw [hro]
  obtain ⟨W0, hW0⟩ : ∃ W0, w.alloc (.cells #[.slice none 0 0] 22) = W0 := ⟨_, rfl⟩
  have hs0 : W0.heap.size = w.heap.size + 1 := by rw [← hW0]; simp
  have hv0 : W0.heap[w.heap.size]? = some (.cells #[.slice none 0 0] 22 (0, 0)) := by rw [← hW0]; exact World.alloc_heap_new w _
  have hb0 : Below w.heap.size w W0 := by rw [← hW0]; exact (Below.refl _ w).alloc (Nat.le_refl _) _
  rw [hW0]
  obtain ⟨W1, hW1⟩ : ∃ W1, (W0.alloc (.deferred (some []))).alloc (.loop (PPapRec fn (.func (.func g) #[] lb) w.heap.size W0.heap.size .ready none)) = W1 := ⟨_, rfl⟩
  have hold : ∀ k, k < W0.heap.size → W1.heap[k]? = W0.heap[k]? := fun k hk => by
    rw [← hW1]; exact (Below.heap_alloc _ _ k (by simp; omega)).trans (Below.heap_alloc _ _ k hk)
  have hb1 : Below w.heap.size w W1 := by rw [← hW1]; exact (hb0.alloc hb0.size _).alloc (by have := hb0.size; simp; omega) _
  have hs1 : W1.heap.size = W0.heap.size + 2 := by rw [← hW1]; simp
  have hM : PPApAt w fn (.func (.func g) #[] lb) w.heap.size (W0.heap.size + 1) W0.heap.size [] W1 :=
    ⟨⟨_, (hold w.heap.size (by omega)).trans hv0, ⟨rfl, .inl ⟨rfl, rfl⟩⟩, by simp⟩,
     by rw [← hW1]; have := World.alloc_heap_new (W0.alloc (.deferred (some []))) (.loop (PPapRec fn (.func (.func g) #[] lb) w.heap.size W0.heap.size .ready none)); rwa [World.size_alloc] at this,
     by rw [← hW1]; exact (Below.heap_alloc _ _ _ (by simp)).trans (World.alloc_heap_new W0 _), hb1⟩
  refine ⟨W0.heap.size + 1, [{ target := .collected W0.heap.size, args := #[] }], W1, { target := .fn (.func g) lb, args := #[.func (.yield (W0.heap.size + 1)) #[] #[]] }, W1, g,
    #[.func (.yield (W0.heap.size + 1)) #[] #[]] ++ lb, W1, ?_, ?_, ?_, ?_, fun _ => h1, ?_⟩
  · rw [← hW1]; exact run_enterLoop_outer _ _ _ _ _
  · simp [resolve, go_sem]
  · intro f' hf'; simp [Target.leads] at hf'; subst hf'; exact hFg
  · simp [invoke, go_sem, eg]
  · refine (hseq (W0.heap.size + 1) (PPApAt w fn (.func (.func g) #[] lb) w.heap.size (W0.heap.size + 1) W0.heap.size) W1 hb1 (PPap_abides _ _ _ _ _ _ _ hb1.size)
      (fun pre x W hJ hl => PPapYield F (n - 1 - 1) w fn hfn _ w.heap.size (W0.heap.size + 1) W0.heap.size (by omega) (by omega) (by omega) (Nat.le_refl _) (by omega) N hN hNb pre x W hJ hl) hM).mono ?_
    rintro e W2 ⟨⟨v0, rfl⟩, ss, hS, h2⟩
    obtain ⟨v, hv, hrow, hnil⟩ := h2.box
    have hend := run_endLoop (P := Tryz.prog) h2.L (by simp [PPapRec])
    obtain ⟨W3, hW3⟩ : ∃ W3, W2.putObj (W0.heap.size + 1) (.loop { PPapRec fn (.func (.func g) #[] lb) w.heap.size W0.heap.size .ready none with state := .exhausted }) = W3 := ⟨_, rfl⟩
    rw [hW3] at hend
    have hg3 : W2.grownBy W3 (some (W0.heap.size + 1)) := by rw [← hW3]; exact grownBy_putObj_a _ _ _
    have hv3 : W3.heap[w.heap.size]? = some (.cells #[v] 22 (0, 0)) := by rw [← hW3]; exact (World.putObj_heap_other (by omega)).trans hv
    have hK3 : W3.heap[W0.heap.size]? = some (.deferred (some [])) := by rw [← hW3]; exact (World.putObj_heap_other (by omega)).trans h2.K
    have hrow3 := hrow.kept hg3 (ownsRow_ne_a hrow h2.L (fun cur e => by cases e))
    have hb3 : Below w.heap.size w W3 := h2.below.grown hg3 h2.below.size (fun k e => by cases e; omega)
    obtain ⟨hc3, hf3⟩ := cell_of_box_a hv3
    clear hW3
    refine ⟨none, W3, hend, ?_⟩
    gi_wp2
    rw [← hs0]
    refine ⟨by simp, .inl ⟨_, _, rfl, run_takeDeferred hK3, ?_⟩⟩
    exact ⟨_, results_tmp rfl _ _ _, v, ss, rfl, hS, hrow3.kept (grownBy_putObj_a _ _ _) (ownsRow_ne_a hrow3 hK3 (fun cur e => by cases e)), hnil, hb3.grown (grownBy_putObj_a _ _ _) hb3.size (fun k e => by cases e; omega)⟩
set_option maxHeartbeats 1000000 in
/-- slices.Collect(maps.Keys(m)). -/
theorem PPcollect (F : Fence) (n : Nat) (h8 : F.fn 87) (h11 : F.fn 110) (hro : F.round = none) (hn : 3 ≤ n) (g : Nat) (lb : Array Value) (hFg : F.fn g) (eg : ∀ args w, (callFunc g args).run Tryz.prog w = .ok (.enter g args) w)
    (S : List S37 → Prop) (N : Nat) (hN : N ≤ maxLen) (hNb : N * 32 ≤ 140737488355328) (w : World) (hseq : SeqGives F (n - 1 - 1) Tryz.prog g lb pv S N w) :
    CallsIn F n Tryz.prog 87 #[.func (.func g) #[] lb] w fun e w' => ∃ (v : Value) (ss : List S37), e = .returned v ∧ S ss ∧ w'.ownsRow w.heap.size 37 3 v ss.length (ss.flatMap enc37) ∧ (v = .slice none 0 0 ↔ ss = []) ∧ Below w.heap.size w w' := by
  have h1 : 1 ≤ n := by omega
  refine callsIn_of_wp Tryz.func87 rfl h8 ?_ hro
  simp only [Tryz.ntmps87, Tryz.f87, List.size_toArray, List.length_cons, List.length_nil, Nat.reduceAdd, Nat.reduceSub, Array.replicate_succ, Array.replicate_zero, List.push_toArray, List.append_toArray, List.nil_append, List.cons_append]
  gi_wp2_with fail
  refine (PPappendSeq F (n - 1) h11 hro (by omega) g lb hFg eg S N hN hNb _ hseq).mono ?_
  rintro e w' ⟨v, ss, rfl, hS, hrow, hnil, hb⟩
  gi_wp2
  go_ret
  exact ⟨v, ss, rfl, hS, hrow, hnil, hb⟩
def lv (x : SPl) : Value := .agg #[.int .i64 x.f0, .int .i64 x.f1]
def encL (x : SPl) : List Value := [.int .i64 x.f0, .int .i64 x.f1]
def wfL (x : SPl) : Prop := (Lit.int .i64 x.f0).wf = true ∧ (Lit.int .i64 x.f1).wf = true
def lk (x : SPl) : Lit := .string (keyBytes [.int .i64 x.f0, .int .i64 x.f1])
theorem row69 : (69 : TypeId) < Tryz.prog.types.size := of_decide_eq_true (by kernel_rfl)
theorem wide69 : (match Tryz.prog.underlying 69 with | some (.array _ _) | some (.struct _) => true | _ => false) = true := by rw [Tryz.underlying69]
set_option maxRecDepth 100000 in
theorem law69 : KeyLaw Tryz.prog 69 := deep_law_laid laidOut_ (m := 2) (by omega) row69 (by kernel_rfl) wide69
theorem kmapL : Keyed Tryz.prog 69 := Keyed.of_law law69
theorem kt69 : Tryz.prog.keyType 69 = true := by kernel_rfl
theorem size69 : Tryz.prog.cellsOf 69 = 2 := by kernel_rfl
theorem klt {x : SPl} (h : wfL x) : keyOf Tryz.prog 69 (lv x) = some (lk x) := by
  have hkt := kt69
  obtain ⟨m, hm⟩ := msize
  obtain ⟨h0, h1⟩ := h
  unfold keyOf lv lk
  simp only [Tryz.underlying69]
  rw [if_pos (by simp [hkt, Value.formed, Tryz.underlying69, size69]), hm]
  unfold Program.keyLits
  simp only [Tryz.underlying69, Value.cells]
  rw [if_pos ⟨by rw [size69]; rfl, by kernel_rfl⟩]
  simp [size3, Program.keyLits, Tryz.underlying3, h0, h1]
theorem lv_inj {x y : SPl} (h : lv x = lv y) : x = y := by
  cases x; cases y
  simpa [lv] using h
theorem lk_inj {x y : SPl} (hx : wfL x) (hy : wfL y) (h : lk x = lk y) : x = y := by
  have h1 := klt hx
  rw [h] at h1
  exact lv_inj (kmapL.inj h1 (klt hy))
set_option maxRecDepth 100000 in
theorem PLinv {v : Value} {kl : Lit} (h : keyOf Tryz.prog 69 v = some kl) : ∃ x : SPl, v = lv x ∧ wfL x ∧ kl = lk x := by
  obtain ⟨cs, ls, rfl, hsz, h1, rfl⟩ := keyOf_struct_inv Tryz.underlying69 h
  obtain ⟨m, hm⟩ := msize
  rw [size69] at hsz
  obtain ⟨l⟩ := cs
  match l, hsz with
  | [c0, c1], _ =>
    rw [hm] at h1
    simp only [List.mapM_cons, List.mapM_nil, size3, Option.bind_eq_bind, List.drop_zero, List.take_succ_cons, List.take_zero, List.drop_succ_cons] at h1
    obtain ⟨ls', h2, rfl⟩ := Option.map_eq_some_iff.1 h1
    obtain ⟨a0, e0, h3⟩ := Option.bind_eq_some_iff.1 h2
    obtain ⟨rest, h4, p1⟩ := Option.bind_eq_some_iff.1 h3
    obtain ⟨a1, e1, h5⟩ := Option.bind_eq_some_iff.1 h4
    clear h h1 h2 h3 h4
    obtain ⟨n0, g0, w0, rfl⟩ := keyInt_inv Tryz.underlying3 e0
    obtain ⟨n1, g1, w1, rfl⟩ := keyInt_inv Tryz.underlying3 e1
    simp at g0 g1 p1 h5
    subst g0 g1 h5 p1
    exact ⟨⟨n0, n1⟩, rfl, ⟨w0, w1⟩, rfl⟩
theorem info69U : (Tryz.prog.info? 69).map (fun i => (i.zero, i.size, i.bytes)) = some (some (.agg #[(.int .i64 0), (.int .i64 0)]), 2, 16) := by kernel_rfl
theorem PLkeyed : Keyed Tryz.prog 69 := kmapL
theorem PLsame (x : SPl) : (lk x).sameKey (lk x) = true := by simp [lk, Lit.sameKey]
theorem PLdiffer {x y : SPl} (hx : wfL x) (hy : wfL y) (hne : x ≠ y) : (lk x).sameKey (lk y) = false := by
  rw [← Bool.not_eq_true]
  intro h
  refine hne (lk_inj hx hy ?_)
  simpa [lk, Lit.sameKey] using h
theorem PLmk_inj {x y : SPl} (h : lv x = lv y) : x = y := lv_inj h
def PLColl {H : Type} (D0 : DataW H) (left : Lit → Bool) (ss : List SPl) : Prop := ss.Nodup ∧ ∀ x, x ∈ ss ↔ (wfL x ∧ has D0 (lk x) = true ∧ left (lk x) = false)
theorem PLColl.start {H : Type} (D0 : DataW H) : PLColl D0 (has D0) [] := ⟨List.nodup_nil, fun x => by cases has D0 (lk x) <;> simp⟩
theorem PLColl.step {H : Type} {D0 : DataW H} {left : Lit → Bool} {ss : List SPl} (h : PLColl D0 left ss) {x : SPl} (hx : wfL x) {y : DataW H} (hlk : left (lk x) = true) (hat : ∀ zd, D0.atKey (lk x) zd = y) :
    PLColl D0 (fun z => left z && !z.sameKey (lk x)) (ss ++ [x]) := by
  have hhas : has D0 (lk x) = true := has_true_of_atKey hat
  have hnew : x ∉ ss := fun hm => by have := ((h.2 x).1 hm).2.2; rw [hlk] at this; cases this
  refine ⟨List.nodup_append.2 ⟨h.1, by simp, fun a ha b hb => by simp at hb; subst hb; exact fun e => hnew (e ▸ ha)⟩, fun y => ?_⟩
  by_cases hy : y = x
  · subst hy; simp [hhas, hx, PLsame]
  · by_cases hwy : wfL y
    · have hne : (lk y).sameKey (lk x) = false := PLdiffer hwy hx hy
      simp [h.2 y, hy, hne, hwy]
    · have hn : y ∉ ss := fun hm => hwy ((h.2 y).1 hm).1
      simp [hn, hy, hwy]
theorem PLenc_inj {x y : SPl} (h : lv x = lv y) : x = y := PLmk_inj h
set_option maxRecDepth 100000 in
set_option maxHeartbeats 2000000 in
/-- The iterator: the keys come, each once. -/
theorem PLkeys1 {H : Type} (F : Fence) (n : Nat) (h10 : F.fn 67) (hro : F.round = none) (hn : 1 ≤ n) (l Bm b nn : Nat) (D0 : DataW H) {R : Value → Option (DataW H × List MemPlace)} (J : List SPl → World → Prop)
    (hY : ∀ pre x W, wfL x → J pre W → pre.length < Maps.size D0 → YieldAt F (n - 1) Tryz.prog l #[lv x] W fun e W' => e = .returned (.bool true) ∧ J (pre ++ [x]) W' ∧ KeepsWalks W W')
    (W : World) (hJ : AbidesFrom W.heap.size J) (hm : W.cell? ⟨Bm, 0, none⟩ = some (.map (some b))) (hown : W.ownsMap Tryz.prog 69 R b nn D0) (h0 : J [] W) :
    CallsIn F n Tryz.prog 67 #[.func (.yield l) #[] #[], .pointer (some ⟨Bm, 0, none⟩)] W fun e W' => (∃ v, e = .returned v) ∧ ∃ ss : List SPl, ss.length ≤ Maps.size D0 ∧ PLColl D0 (fun _ => false) ss ∧ J ss W' := by
  have hK := PLkeyed
  refine callsIn_of_wp Tryz.func67 rfl h10 ?_ hro
  simp only [Tryz.ntmps67, Tryz.f67, List.size_toArray, List.length_cons, List.length_nil, Nat.reduceAdd, Nat.reduceSub, Array.replicate_succ, Array.replicate_zero, List.push_toArray, List.append_toArray, List.nil_append, List.cons_append]
  gi_wp2_with (first
    | (gi_at_range; refine wpListIn_range_own _ rfl _ 67 rfl 69 70 hK Tryz.underlying67 _ b nn _ rfl hown ?_; intro w0 hrg0 hg0 hs0)
    | gi_in)
  go_frame
  gi_loopw [3] (fun _ wr => ∃ (left : Lit → Bool) (cnt : Nat) (ss : List SPl), wr.ranges Tryz.prog 69 R b W.heap.size nn D0 left cnt ∧ ss.length + cnt ≤ Maps.size D0 ∧ PLColl D0 left ss ∧ J ss wr)
    (fun _ wr => wr.rangeLeft b W.heap.size)
  case atStart =>
    exact ⟨_, _, [], hrg0, by simp, PLColl.start D0, hJ [] W w0 none h0 hg0 (fun r e => by cases e)⟩
  case round =>
    obtain ⟨left, cnt, ss, hrg, hcs, hC, hJs⟩ := hrel
    gi_wp2_with (first
      | (gi_at_next; refine wpListIn_next_ranges _ rfl _ rfl 69 hK R lv id (fun key kl hk => by obtain ⟨x, hx, _⟩ := PLinv hk; exact ⟨x, hx⟩) (fun v _ _ => ⟨v, rfl⟩) b W.heap.size nn _ _ _ rfl hrg ?_ ?_)
      | gi_in)
    · intro hc0 hl0
      gi_wp2
      go_end0
      refine ⟨⟨_, rfl⟩, ss, by omega, ⟨hC.1, fun x => by rw [hC.2 x, hl0]⟩, hJs⟩
    · intro x c kl yd yp w2 cnt2 hkey hlk hv hat hrg2 hlt hg2 hs2 hen
      obtain ⟨x', ex, hwx, rfl⟩ := PLinv hkey
      obtain rfl : x = x' := PLenc_inj ex
      have hJ2 : J ss w2 := hJ ss wr w2 (some W.heap.size) hJs hg2 (fun r e => by cases e; exact ⟨Nat.le_refl _, hrg.iter_walk⟩)
      clear hs2
      obtain ⟨wb, hwb⟩ : ∃ wb, w2.alloc (.cells (encL x).toArray 69) = wb := ⟨_, rfl⟩
      have hgb : w2.grownBy wb none := by rw [← hwb]; exact ⟨rfl, rfl, rfl, by simp, fun i hi hne => Below.heap_alloc w2 _ i hi⟩
      have hkb : KeepsWalks w2 wb := by rw [← hwb]; exact KeepsWalks.alloc _ _
      have hJb : J ss wb := hJ ss w2 wb none hJ2 hgb (fun r e => by cases e)
      obtain ⟨fn, tmps, assign, body, hy, hR⟩ := hY ss x wb hwx hJb (by omega)
      unfold lv at hen ex hkey hy
      unfold encL at hwb
      have HWB := Aside0.mk hwb
      clear hwb
      gi_wp2_with fail
      rw [show (w2.alloc (.cells #[.int .i64 x.f0, .int .i64 x.f1] 69)) = wb from HWB.out]
      rw [hy]
      gi_wp2
      refine hR.mono ?_
      rintro e W3 ⟨rfl, hJ3, hk3⟩
      gi_wp2
      have hrg3 := hrg2.of_walks (hkb.trans hk3)
      go_roundw
      case rel => exact ⟨_, cnt2, ss ++ [x], hrg3, by simp; omega, hC.step hwx hlk hat, hJ3⟩
      case measure => rw [hrg3.left_eq, hrg.left_eq]; exact hlt
set_option maxHeartbeats 1000000 in
/-- maps.Keys(m): the map is boxed; the function value captures the box. -/
theorem PLkeys (mb : Option Nat) (w : World) :
    Calls Tryz.prog 47 #[.map mb] w fun e w' => e = .returned (.func (.func 67) #[] #[.pointer (some ⟨w.heap.size, 0, none⟩)]) ∧ w' = w.alloc (.cells #[.map mb] 67) := by
  go_enter Tryz.func47, Tryz.ntmps47
  go_wp2
  go_ret
  exact ⟨rfl, rfl⟩
theorem PLgives {H : Type} (F : Fence) (n : Nat) (h10 : F.fn 67) (hro : F.round = none) (hn : 1 ≤ n) (Bm b nn : Nat) (D0 : DataW H) {R : Value → Option (DataW H × List MemPlace)} (w : World) (hBm : Bm < w.heap.size)
    (hm : w.cell? ⟨Bm, 0, none⟩ = some (.map (some b))) (hown : w.ownsMap Tryz.prog 69 R b nn D0) :
    SeqGives F n Tryz.prog 67 #[.pointer (some ⟨Bm, 0, none⟩)] lv (fun ss => ss.length ≤ Maps.size D0 ∧ PLColl D0 (fun _ => false) ss) (Maps.size D0) w := fun l J W hW hJ hY h0 => by
  have hown' : W.ownsMap Tryz.prog 69 R b nn D0 := by
    have hbl := hown.lt
    obtain ⟨es, clock, hb, Ft, hs, hD⟩ := hown
    exact ⟨es, clock, (hW.block b hbl).trans hb, Ft, hs, hD⟩
  refine (PLkeys1 F n h10 hro hn l Bm b nn D0 J (fun pre x W _ hp hl => hY pre x W hp hl) W hJ ((hW.cell (p := ⟨Bm, 0, none⟩) hBm).trans hm) hown' h0).mono ?_
  rintro e W' ⟨h1, ss, h2, h3, h4⟩
  exact ⟨h1, ss, ⟨h2, h3⟩, h4⟩
def PLapAssign : Code := (Code.region 2 #[{ dst := some 5, op := Op.alloc 69, type := 0, pos := "iter.go:51", after := #[], guard := none }, { dst := none, op := Op.store 69 (Operand.tmp 5) (Operand.tmp 7), type := 0, pos := "iter.go:51", after := #[{ on := 0, ground := Ground.data }, { on := 0, ground := Ground.phase }], guard := none }] false)
def PLapBody : Code := (Code.block 1 (Code.region 3 #[{ dst := some 8, op := Op.load 71 (Operand.tmp 2), type := 71, pos := "iter.go:52", after := #[], guard := none }, { dst := some 9, op := Op.load 69 (Operand.tmp 5), type := 69, pos := "iter.go:52", after := #[], guard := none }, { dst := some 10, op := Op.buildSlice 71 1 #[(0, Operand.tmp 9)], type := 71, pos := "iter.go:52", after := #[{ on := 1, ground := Ground.data }], guard := none }, { dst := some 11, op := Op.call { callee := Callee.builtin Builtin.append, args := #[Operand.tmp 8, Operand.tmp 10], argTypes := #[71, 71] }, type := 71, pos := "iter.go:52", after := #[{ on := 0, ground := Ground.data }, { on := 2, ground := Ground.data }], guard := none }, { dst := none, op := Op.store 71 (Operand.tmp 2) (Operand.tmp 11), type := 0, pos := "iter.go:52", after := #[{ on := 3, ground := Ground.data }, { on := 3, ground := Ground.chain }, { on := 0, ground := Ground.phase }, { on := 1, ground := Ground.phase }, { on := 2, ground := Ground.phase }, { on := 3, ground := Ground.phase }], guard := none }] false))
def PLapRec (fn : FuncId) (sv : Value) (Bs D : Nat) (st : LoopState) (pend : Option Code) : Loop :=
  { state := st, pending := pend, fn, tmps := #[.slice none 0 0, sv, .pointer (some ⟨Bs, 0, none⟩), undef, .slice none 0 0, undef, sv, undef, undef, undef, undef, undef, undef], params := #[7], assign := PLapAssign, body := PLapBody, defers := D }
structure PLApAt (w0 : World) (fn : FuncId) (sv : Value) (Bs l D : Nat) (ss : List SPl) (W : World) : Prop where
  box : ∃ v, W.heap[Bs]? = some (.cells #[v] 71 (0, 0)) ∧ W.ownsRow w0.heap.size 69 2 v ss.length (ss.flatMap encL) ∧ (v = .slice none 0 0 ↔ ss = [])
  L : W.heap[l]? = some (.loop (PLapRec fn sv Bs D .ready none))
  K : W.heap[D]? = some (.deferred (some []))
  below : Below w0.heap.size w0 W
theorem PLap_abides (w0 : World) (fn : FuncId) (sv : Value) (Bs l D B : Nat) (hB : w0.heap.size ≤ B) : AbidesFrom B (PLApAt w0 fn sv Bs l D) := fun s W W' row h hg hrow => by
  have hrow' : ∀ r, row = some r → ∃ o : Obj, W.heap[r]? = some o ∧ o.isWalk = true := fun r e => (hrow r e).2
  obtain ⟨v, hv, hr, hn⟩ := h.box
  exact ⟨⟨v, (grownBy_keeps hg hrow' hv rfl).trans hv, ownsRow_abides_a hr hg hrow', hn⟩, (grownBy_keeps hg hrow' h.L rfl).trans h.L, (grownBy_keeps hg hrow' h.K rfl).trans h.K,
    h.below.grown hg h.below.size (fun k e => Nat.le_trans hB (hrow k e).1)⟩
set_option maxRecDepth 100000 in
set_option maxHeartbeats 4000000 in
theorem PLapYield (F : Fence) (m : Nat) (w0 : World) (fn : FuncId) (hfn : F.fn fn) (sv : Value) (Bs l D : Nat) (hBl : Bs ≠ l) (hDl : D ≠ l) (hDB : D ≠ Bs) (h0B : w0.heap.size ≤ Bs) (h0l : w0.heap.size ≤ l)
    (N : Nat) (hN : N ≤ maxLen) (hNb : N * 16 ≤ 140737488355328) (ss : List SPl) (x : SPl) (W : World) (h : PLApAt w0 fn sv Bs l D ss W) (hlen : ss.length < N) :
    YieldAt F m Tryz.prog l #[lv x] W fun e W' => e = .returned (.bool true) ∧ PLApAt w0 fn sv Bs l D (ss ++ [x]) W' ∧ KeepsWalks W W' := by
  obtain ⟨i0, hi, hz0, hz1, hz2⟩ := info_parts info69U
  obtain ⟨v, hv, hrow, _⟩ := h.box
  refine ⟨fn, #[.slice none 0 0, sv, .pointer (some ⟨Bs, 0, none⟩), undef, .slice none 0 0, undef, sv, lv x, undef, undef, undef, undef, undef], PLapAssign, PLapBody, by simpa [PLapRec] using run_yield (P := Tryz.prog) (args := #[lv x]) h.L rfl, roundIn_of_wpIn hfn ?_⟩
  have hl0 : l < W.heap.size := (Array.getElem?_eq_some_iff.1 h.L).1
  have hB0 : Bs < W.heap.size := (Array.getElem?_eq_some_iff.1 hv).1
  have hD0 : D < W.heap.size := (Array.getElem?_eq_some_iff.1 h.K).1
  obtain ⟨wa, hwa⟩ : ∃ wa, W.alloc (.cells (encL x).toArray 69) = wa := ⟨_, rfl⟩
  have hxa : wa.heap[W.heap.size]? = some (.cells (encL x).toArray 69 (0, 0)) := by rw [← hwa]; exact World.alloc_heap_new W _
  have hsa : wa.heap.size = W.heap.size + 1 := by rw [← hwa]; simp
  have holda : ∀ k, k < W.heap.size → wa.heap[k]? = W.heap[k]? := fun k hk => by rw [← hwa]; exact Below.heap_alloc _ _ k hk
  have hrowa : wa.ownsRow w0.heap.size 69 2 v ss.length (ss.flatMap encL) := by rw [← hwa]; exact hrow.alloc _
  have hka : KeepsWalks W wa := by rw [← hwa]; exact KeepsWalks.alloc _ _
  have hba : Below w0.heap.size w0 wa := by rw [← hwa]; exact h.below.alloc h.below.size _
  have hLa : wa.heap[l]? = some (.loop (PLapRec fn sv Bs D .ready none)) := (holda l hl0).trans h.L
  have hva := (holda Bs hB0).trans hv
  have hKa := (holda D hD0).trans h.K
  have hbr := run_beginRound (P := Tryz.prog) hLa rfl
  obtain ⟨wb, hW2⟩ : ∃ wb, wa.putObj l (.loop { PLapRec fn sv Bs D .ready none with state := .busy }) = wb := ⟨_, rfl⟩
  rw [hW2] at hbr
  have hg2 : wa.grownBy wb (some l) := by rw [← hW2]; exact grownBy_putObj_a _ _ _
  have hk2 : KeepsWalks wa wb := by rw [← hW2]; exact KeepsWalks.putObj _ hLa rfl
  have hvb : wb.heap[Bs]? = some (.cells #[v] 71 (0, 0)) := by rw [← hW2]; exact (World.putObj_heap_other hBl).trans hva
  have hKb : wb.heap[D]? = some (.deferred (some [])) := by rw [← hW2]; exact (World.putObj_heap_other hDl).trans hKa
  have hLb : wb.heap[l]? = some (.loop { PLapRec fn sv Bs D .ready none with state := .busy }) := by rw [← hW2]; exact World.putObj_heap_same (by omega)
  have hxb : wb.heap[W.heap.size]? = some (.cells (encL x).toArray 69 (0, 0)) := by rw [← hW2]; exact (World.putObj_heap_other (by omega)).trans hxa
  have hrowb : wb.ownsRow w0.heap.size 69 2 v ss.length (ss.flatMap encL) := hrowa.kept hg2 (ownsRow_ne_a hrowa hLa (fun cur e => by cases e))
  have hbb : Below w0.heap.size w0 wb := hba.grown hg2 hba.size (fun k e => by cases e; exact h0l)
  have hBlt : Bs < wb.heap.size := (Array.getElem?_eq_some_iff.1 hvb).1
  have hl2 : l < wb.heap.size := (Array.getElem?_eq_some_iff.1 hLb).1
  have hDlt : D < wb.heap.size := (Array.getElem?_eq_some_iff.1 hKb).1
  obtain ⟨hcb, hfb⟩ := cell_of_box_a hvb
  have hxc : ∀ j, wb.cell? ⟨W.heap.size, j, none⟩ = (encL x).toArray[j]? := fun j => by simp [World.cell?, hxb]
  have ne_of : ∀ {j : Nat} {o : Obj}, wb.heap[j]? = some o → (∀ cur, o ≠ .cells cur 69 (0, 0)) → some j ≠ v.ownBlock := fun hj hno => by
    rcases ownsRow_ne_a hrowb hj hno with e | e
    · rw [e]; simp
    · exact fun e' => e e'.symm
  have hxc0 : wb.cell? ⟨W.heap.size, 0, none⟩ = some (.int .i64 x.f0) := hxc 0
  have hxc1 : wb.cell? ⟨W.heap.size, 1, none⟩ = some (.int .i64 x.f1) := hxc 1
  clear hxc
  have HWA := Aside0.mk hwa
  clear hwa hW2 hsa holda
  unfold PLapAssign lv
  unfold encL at HWA
  gi_wp2_with gi_round_op_a
  rw [show (W.alloc (.cells #[.int .i64 x.f0, .int .i64 x.f1] 69)) = wa from HWA.out]
  refine ⟨_, hbr, ?_⟩
  unfold PLapBody
  gi_wp2_with (first
    | (gi_at_builtin; refine wpListIn_append_own _ rfl _ _ 71 rfl w0.heap.size 69 i0 _ 2 16 Tryz.underlying71 hi hz0 hz1 hz2 rfl (by decide) _ _ _ rfl (hrowb.alloc _) ⟨wb.heap.size, 0, none⟩ 1 1 (encL x) rfl rfl (World.news_of_block (World.alloc_heap_new wb _)) (by intro u hu; simp [encL] at hu; rcases hu with rfl | rfl <;> rfl) (by omega) (by omega) (by have := hbb.size; simp; omega) ?_; intro v' w3 hown' hg3 hnil3
       have hv3 : w3.heap[Bs]? = some (.cells #[v] 71 (0, 0)) := (hg3.block Bs (by simp; omega) (ne_of hvb (fun cur e => by cases e))).trans ((Below.heap_alloc _ _ Bs (by omega)).trans hvb)
       obtain ⟨hc3, hf3⟩ := cell_of_box_a hv3
       obtain ⟨g', cap', cur', rfl, hbase', hgb', hr1, hr2, hr3, hr4⟩ : ∃ g' cap' cur', v' = .slice (some ⟨g', 0, none⟩) (ss.length + 1) cap' ∧ w0.heap.size ≤ g' ∧ w3.heap[g']? = some (.cells cur' 69 (0, 0)) ∧ ss.length + 1 ≤ cap' ∧ cap' ≤ maxLen ∧ cur'.size = cap' * 2 ∧ cur'.toList.take ((ss.length + 1) * 2) = ss.flatMap encL ++ encL x := by
         rcases hown'.2 with ⟨_, h0⟩ | h'
         · exact absurd h0 (by omega)
         · exact h'
       go_frame)
    | gi_round_op_a)
  have hg3' : (wb.alloc (.cells (encL x).toArray 69)).grownBy w3 v.ownBlock := hg3
  have hL3 : w3.heap[l]? = some (.loop { PLapRec fn sv Bs D .ready none with state := .busy }) := (hg3'.block l (by simp; omega) (ne_of hLb (fun cur e => by cases e))).trans ((Below.heap_alloc _ _ l (by omega)).trans hLb)
  have hK3 : w3.heap[D]? = some (.deferred (some [])) := (hg3'.block D (by simp; omega) (ne_of hKb (fun cur e => by cases e))).trans ((Below.heap_alloc _ _ D (by omega)).trans hKb)
  obtain ⟨w4, hw4⟩ : ∃ w4, w3.setCell ⟨Bs, 0, none⟩ (.slice (some ⟨g', 0, none⟩) (ss.length + 1) cap') = w4 := ⟨_, rfl⟩
  rw [hw4]
  have hg4 : w3.grownBy w4 (some Bs) := by rw [← hw4]; exact grownBy_setCell0_a _ _ _
  have hv4 : w4.heap[Bs]? = some (.cells #[.slice (some ⟨g', 0, none⟩) (ss.length + 1) cap'] 71 (0, 0)) := by rw [← hw4]; exact heap_setCell_box_a _ hv3
  have hL4 : w4.heap[l]? = some (.loop { PLapRec fn sv Bs D .ready none with state := .busy }) := (hg4.block l (Array.getElem?_eq_some_iff.1 hL3).1 (fun e => hBl (by cases e; rfl))).trans hL3
  have hK4 : w4.heap[D]? = some (.deferred (some [])) := (hg4.block D (Array.getElem?_eq_some_iff.1 hK3).1 (fun e => hDB (by cases e; rfl))).trans hK3
  have hrow4 := hown'.kept hg4 (ownsRow_ne_a hown' hv3 (fun cur e => by cases e))
  have hl4 : l < w4.heap.size := (Array.getElem?_eq_some_iff.1 hL4).1
  have hb3 : Below w0.heap.size w0 w3 := (hbb.alloc hbb.size _).grown hg3' (by have := hbb.size; simp; omega) (fun k e => (hrowb.lt k e).1)
  have hb4 : Below w0.heap.size w0 w4 := hb3.grown hg4 hb3.size (fun k e => by cases e; exact h0B)
  have hk4 : KeepsWalks W w4 := (((hka.trans hk2).trans (KeepsWalks.alloc _ _)).trans (KeepsWalks.of_grownBy hg3' (ownsRow_not_walk_a (hrowb.alloc _)))).trans (by rw [← hw4]; exact KeepsWalks.setCell _ _ _)
  clear hw4
  refine ⟨_, _, run_endRound none hL4, rfl, ⟨⟨_, (World.putObj_heap_other hBl).trans hv4, ?_, by simp⟩, World.putObj_heap_same hl4, (World.putObj_heap_other hDl).trans hK4, hb4.grown (grownBy_putObj_a _ _ _) hb4.size (fun k e => by cases e; exact h0l)⟩, hk4.trans (KeepsWalks.putObj _ hL4 rfl)⟩
  have := hrow4.kept (grownBy_putObj_a w4 l (.loop { { PLapRec fn sv Bs D .ready none with state := .busy } with state := if (none : Option Code).isNone then .ready else .done, pending := none })) (ownsRow_ne_a hrow4 hL4 (fun cur e => by cases e))
  simpa [List.flatMap_append] using this
set_option maxRecDepth 100000 in
set_option maxHeartbeats 4000000 in
/-- slices.AppendSeq(nil, seq). -/
theorem PLappendSeq (F : Fence) (n : Nat) (h11 : F.fn 82) (hro : F.round = none) (hn : 2 ≤ n) (g : Nat) (lb : Array Value) (hFg : F.fn g) (eg : ∀ args w, (callFunc g args).run Tryz.prog w = .ok (.enter g args) w)
    (S : List SPl → Prop) (N : Nat) (hN : N ≤ maxLen) (hNb : N * 16 ≤ 140737488355328) (w : World) (hseq : SeqGives F (n - 1) Tryz.prog g lb lv S N w) :
    CallsIn F n Tryz.prog 82 #[.slice none 0 0, .func (.func g) #[] lb] w fun e w' => ∃ (v : Value) (ss : List SPl), e = .returned v ∧ S ss ∧ w'.ownsRow w.heap.size 69 2 v ss.length (ss.flatMap encL) ∧ (v = .slice none 0 0 ↔ ss = []) ∧ Below w.heap.size w w' := by
  have h1 : 1 ≤ n := by omega
  refine callsIn_of_wp_marks Tryz.func82 rfl h11 ?_ hro
  simp only [Tryz.ntmps82, List.size_toArray, List.length_cons, List.length_nil, Nat.reduceAdd, Nat.reduceSub, Array.replicate_succ, Array.replicate_zero, List.push_toArray, List.append_toArray, List.nil_append, List.cons_append]
  gi_wp2
  refine wpIn_rangeFunc ?_
  intro fn hfn
  rw [hro]
  obtain ⟨W0, hW0⟩ : ∃ W0, w.alloc (.cells #[.slice none 0 0] 71) = W0 := ⟨_, rfl⟩
  have hs0 : W0.heap.size = w.heap.size + 1 := by rw [← hW0]; simp
  have hv0 : W0.heap[w.heap.size]? = some (.cells #[.slice none 0 0] 71 (0, 0)) := by rw [← hW0]; exact World.alloc_heap_new w _
  have hb0 : Below w.heap.size w W0 := by rw [← hW0]; exact (Below.refl _ w).alloc (Nat.le_refl _) _
  rw [hW0]
  obtain ⟨W1, hW1⟩ : ∃ W1, (W0.alloc (.deferred (some []))).alloc (.loop (PLapRec fn (.func (.func g) #[] lb) w.heap.size W0.heap.size .ready none)) = W1 := ⟨_, rfl⟩
  have hold : ∀ k, k < W0.heap.size → W1.heap[k]? = W0.heap[k]? := fun k hk => by
    rw [← hW1]; exact (Below.heap_alloc _ _ k (by simp; omega)).trans (Below.heap_alloc _ _ k hk)
  have hb1 : Below w.heap.size w W1 := by rw [← hW1]; exact (hb0.alloc hb0.size _).alloc (by have := hb0.size; simp; omega) _
  have hs1 : W1.heap.size = W0.heap.size + 2 := by rw [← hW1]; simp
  have hM : PLApAt w fn (.func (.func g) #[] lb) w.heap.size (W0.heap.size + 1) W0.heap.size [] W1 :=
    ⟨⟨_, (hold w.heap.size (by omega)).trans hv0, ⟨rfl, .inl ⟨rfl, rfl⟩⟩, by simp⟩,
     by rw [← hW1]; have := World.alloc_heap_new (W0.alloc (.deferred (some []))) (.loop (PLapRec fn (.func (.func g) #[] lb) w.heap.size W0.heap.size .ready none)); rwa [World.size_alloc] at this,
     by rw [← hW1]; exact (Below.heap_alloc _ _ _ (by simp)).trans (World.alloc_heap_new W0 _), hb1⟩
  refine ⟨W0.heap.size + 1, [{ target := .collected W0.heap.size, args := #[] }], W1, { target := .fn (.func g) lb, args := #[.func (.yield (W0.heap.size + 1)) #[] #[]] }, W1, g,
    #[.func (.yield (W0.heap.size + 1)) #[] #[]] ++ lb, W1, ?_, ?_, ?_, ?_, fun _ => h1, ?_⟩
  · rw [← hW1]; exact run_enterLoop_outer _ _ _ _ _
  · simp [resolve, go_sem]
  · intro f' hf'; simp [Target.leads] at hf'; subst hf'; exact hFg
  · simp [invoke, go_sem, eg]
  · refine (hseq (W0.heap.size + 1) (PLApAt w fn (.func (.func g) #[] lb) w.heap.size (W0.heap.size + 1) W0.heap.size) W1 hb1 (PLap_abides _ _ _ _ _ _ _ hb1.size)
      (fun pre x W hJ hl => PLapYield F (n - 1 - 1) w fn hfn _ w.heap.size (W0.heap.size + 1) W0.heap.size (by omega) (by omega) (by omega) (Nat.le_refl _) (by omega) N hN hNb pre x W hJ hl) hM).mono ?_
    rintro e W2 ⟨⟨v0, rfl⟩, ss, hS, h2⟩
    obtain ⟨v, hv, hrow, hnil⟩ := h2.box
    have hend := run_endLoop (P := Tryz.prog) h2.L (by simp [PLapRec])
    obtain ⟨W3, hW3⟩ : ∃ W3, W2.putObj (W0.heap.size + 1) (.loop { PLapRec fn (.func (.func g) #[] lb) w.heap.size W0.heap.size .ready none with state := .exhausted }) = W3 := ⟨_, rfl⟩
    rw [hW3] at hend
    have hg3 : W2.grownBy W3 (some (W0.heap.size + 1)) := by rw [← hW3]; exact grownBy_putObj_a _ _ _
    have hv3 : W3.heap[w.heap.size]? = some (.cells #[v] 71 (0, 0)) := by rw [← hW3]; exact (World.putObj_heap_other (by omega)).trans hv
    have hK3 : W3.heap[W0.heap.size]? = some (.deferred (some [])) := by rw [← hW3]; exact (World.putObj_heap_other (by omega)).trans h2.K
    have hrow3 := hrow.kept hg3 (ownsRow_ne_a hrow h2.L (fun cur e => by cases e))
    have hb3 : Below w.heap.size w W3 := h2.below.grown hg3 h2.below.size (fun k e => by cases e; omega)
    obtain ⟨hc3, hf3⟩ := cell_of_box_a hv3
    clear hW3
    refine ⟨none, W3, hend, ?_⟩
    gi_wp2
    rw [← hs0]
    refine ⟨by simp, .inl ⟨_, _, rfl, run_takeDeferred hK3, ?_⟩⟩
    exact ⟨_, results_tmp rfl _ _ _, v, ss, rfl, hS, hrow3.kept (grownBy_putObj_a _ _ _) (ownsRow_ne_a hrow3 hK3 (fun cur e => by cases e)), hnil, hb3.grown (grownBy_putObj_a _ _ _) hb3.size (fun k e => by cases e; omega)⟩
set_option maxHeartbeats 1000000 in
/-- slices.Collect(maps.Keys(m)). -/
theorem PLcollect (F : Fence) (n : Nat) (h8 : F.fn 65) (h11 : F.fn 82) (hro : F.round = none) (hn : 3 ≤ n) (g : Nat) (lb : Array Value) (hFg : F.fn g) (eg : ∀ args w, (callFunc g args).run Tryz.prog w = .ok (.enter g args) w)
    (S : List SPl → Prop) (N : Nat) (hN : N ≤ maxLen) (hNb : N * 16 ≤ 140737488355328) (w : World) (hseq : SeqGives F (n - 1 - 1) Tryz.prog g lb lv S N w) :
    CallsIn F n Tryz.prog 65 #[.func (.func g) #[] lb] w fun e w' => ∃ (v : Value) (ss : List SPl), e = .returned v ∧ S ss ∧ w'.ownsRow w.heap.size 69 2 v ss.length (ss.flatMap encL) ∧ (v = .slice none 0 0 ↔ ss = []) ∧ Below w.heap.size w w' := by
  have h1 : 1 ≤ n := by omega
  refine callsIn_of_wp Tryz.func65 rfl h8 ?_ hro
  simp only [Tryz.ntmps65, Tryz.f65, List.size_toArray, List.length_cons, List.length_nil, Nat.reduceAdd, Nat.reduceSub, Array.replicate_succ, Array.replicate_zero, List.push_toArray, List.append_toArray, List.nil_append, List.cons_append]
  gi_wp2_with fail
  refine (PLappendSeq F (n - 1) h11 hro (by omega) g lb hFg eg S N hN hNb _ hseq).mono ?_
  rintro e w' ⟨v, ss, rfl, hS, hrow, hnil, hb⟩
  gi_wp2
  go_ret
  exact ⟨v, ss, rfl, hS, hrow, hnil, hb⟩
end Go.Proofs.YtldlenjfpjihdaaGreat.PS
end
