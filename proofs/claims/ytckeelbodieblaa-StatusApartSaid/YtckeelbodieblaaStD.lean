/- Status: how a table turns. -/
import Derived.Test.YtckeelbodieblaaStC
namespace Go.Proofs.Ytckeelbodieblaa.St
open Go Go.RowKit Go.Proofs Go.Maps Go.MuLone Go.Sort Go.Shelf Go.Proofs.YtckeelbodieblaaW.PrintWords Go.Proofs.YtckeelbodieblaaW.PrintLast Go.Proofs.YtckeelbodieblaaW.PrintMore Go.Proofs.Ytckeelbodieblaa.PB
set_option linter.unusedVariables false
set_option linter.unusedSimpArgs false
/-- What a call keeps: all but the blocks of S. -/
structure Kept (w W : World) (S : Nat → Prop) : Prop where
  size : w.heap.size ≤ W.heap.size
  block : ∀ i, i < w.heap.size → ¬ S i → W.heap[i]? = w.heap[i]?
  os : W.os = w.os
  tape : W.tape = w.tape
  output : W.output = w.output
section
variable {w W W2 : World} {S S2 S' : Nat → Prop}
theorem Kept.old (h : Kept w W S) : YtckeelbodieblaaW.PrintWords.Kept w W S := ⟨h.size, h.block⟩
theorem Kept.refl (w : World) (S : Nat → Prop) : Kept w w S := ⟨Nat.le_refl _, fun _ _ _ => rfl, rfl, rfl, rfl⟩
theorem Kept.of_below (h : Below w.heap.size w W) (S : Nat → Prop) : Kept w W S := ⟨h.size, fun i hi _ => h.block i hi, h.os, h.tape, h.output⟩
theorem Kept.then_ (h : Kept w W S) (k : Kept W W2 S2) (hs : ∀ k, S2 k → S k ∨ w.heap.size ≤ k) : Kept w W2 S :=
  ⟨(h.old.then_ k.old hs).1, (h.old.then_ k.old hs).2, k.os.trans h.os, k.tape.trans h.tape, k.output.trans h.output⟩
theorem Kept.of_grown {row : Option Nat} (hg : W.grownBy W2 row) (h : Kept w W S) (hr : ∀ k, row = some k → S k ∨ w.heap.size ≤ k) : Kept w W2 S :=
  h.then_ (S2 := fun k => row = some k) ⟨hg.size, fun i hi hn => hg.block i hi (fun he => hn he.symm), hg.os, hg.tape, hg.output⟩ hr
theorem Kept.below (h : Kept w W S) (hb : Below W.heap.size W W2) : Kept w W2 S := h.then_ (Kept.of_below hb (fun _ => False)) (fun _ hk => hk.elim)
theorem Kept.alloc (h : Kept w W S) (o : Obj) : Kept w (W.alloc o) S := h.below (below_alloc (Below.refl _ _) o)
theorem Kept.setCell (h : Kept w W S) {p : Addr} (hp : S p.block ∨ w.heap.size ≤ p.block) (u : Value) : Kept w (W.setCell p u) S :=
  h.then_ (S2 := fun k => k = p.block) ⟨by simp [World.setCell], fun i _ hn => Below.heap_setCell W p u i hn, rfl, rfl, rfl⟩ (fun k hk => by rw [hk]; exact hp)
theorem Kept.toBelow (h : Kept w W S) {B : Nat} (hB : ∀ k, k < B → k < w.heap.size ∧ ¬ S k) : Below B w W := ⟨h.os, h.tape, h.output, h.size, fun k hk => h.block k (hB k hk).1 (hB k hk).2⟩
theorem blk_kept {g : Nat} {o : Obj} (hb : W.heap[g]? = some o) (hk : Kept W W2 S) (hne : ¬ S g) : W2.heap[g]? = some o := YtckeelbodieblaaW.PrintWords.blk_kept hb hk.old hne
theorem Kd.R_kept {α : Type} {d : YtckeelbodieblaaW.PrintWords.Kd α} {e base : Nat} {ok : Nat → Prop} {v : Value} {xs : List α} (h : d.R e W base ok v xs) (hk : Kept W W2 S) (hne : ∀ k, ok k → ¬ S k) : d.R e W2 base ok v xs := YtckeelbodieblaaW.PrintWords.Kd.R_kept h hk.old hne
theorem Kd.R_keptB {α : Type} {d : YtckeelbodieblaaW.PrintWords.Kd α} {e base : Nat} {ok : Nat → Prop} {v : Value} {xs : List α} (h : d.R e W base ok v xs) (hk : Kept W W2 S) (hne : ∀ k, ok k → ¬ S k) : d.R e W2 base (fun k => ok k ∧ (¬ S k ∧ k < W.heap.size)) v xs := YtckeelbodieblaaW.PrintWords.Kd.R_keptB h hk.old hne
end
/-- The blocks of a table that may be written. -/
def Foot (b m : Nat) (pf : Int → Nat) (L : List S70) : Nat → Prop := fun k => k = b ∨ k = m ∨ ∃ x ∈ L, k = pf x.f0
theorem cells_ty {cs cs' : Array Value} {t t' : Nat} (h : some (Obj.cells cs t (0, 0)) = some (Obj.cells cs' t' (0, 0))) : t = t' := by
  injection h with h
  injection h
section
variable {w w' : World} {lk : Int} {b m nn : Nat} {pf qf : Int → Nat} {L : List S70} {last : Int}
theorem Mp.blk (h : Mp w m nn pf L) : ∃ es clock, w.heap[m]? = some (.map es clock) := by
  obtain ⟨D, ⟨es, clock, h1, _⟩, _⟩ := h
  exact ⟨es, clock, h1⟩
theorem Mp.same (h : Mp w m nn pf L) (hm : w'.heap[m]? = w.heap[m]?) : Mp w' m nn pf L := by
  obtain ⟨D, ⟨es, clock, h1, h2⟩, h3⟩ := h
  exact ⟨D, ⟨es, clock, hm.trans h1, h2⟩, h3⟩
theorem Tab.lt (h : Tab w lk b m nn pf qf L last) {k : Nat} (hk : Foot b m pf L k) : k < w.heap.size := by
  rcases hk with rfl | rfl | ⟨x, hx, rfl⟩
  · exact lt_of h.blk
  · obtain ⟨es, clock, h1⟩ := h.mp.blk
    exact lt_of h1
  · exact lt_of (h.p x hx)
theorem Tab.b_ne_m (h : Tab w lk b m nn pf qf L last) : b ≠ m := by
  obtain ⟨es, clock, h1⟩ := h.mp.blk
  rintro rfl
  rw [h.blk] at h1
  cases h1
theorem Tab.b_ne_p (h : Tab w lk b m nn pf qf L last) {x : S70} (hx : x ∈ L) : b ≠ pf x.f0 := by
  intro e
  have := h.p x hx
  rw [← e, h.blk] at this
  exact absurd (cells_ty this) (by decide)
theorem Tab.m_ne_p (h : Tab w lk b m nn pf qf L last) {x : S70} (hx : x ∈ L) : m ≠ pf x.f0 := by
  intro e
  obtain ⟨es, clock, h1⟩ := h.mp.blk
  have := h.p x hx
  rw [← e, h1] at this
  cases this
theorem Tab.q_not (h : Tab w lk b m nn pf qf L last) {x : S70} (hx : x ∈ L) : ¬ Foot b m pf L (qf x.f0) := by
  have hq := h.q x hx
  rintro (e | e | ⟨y, hy, e⟩)
  · rw [e, h.blk] at hq
    exact absurd (cells_ty hq) (by decide)
  · obtain ⟨es, clock, h1⟩ := h.mp.blk
    rw [e, h1] at hq
    cases hq
  · rw [e, h.p y hy] at hq
    exact absurd (cells_ty hq) (by decide)
/-- Whatever leaves the table's blocks as they are. -/
theorem Tab.kept (h : Tab w lk b m nn pf qf L last) {S : Nat → Prop} (hk : Kept w w' S) (hS : ∀ k, Foot b m pf L k → ¬ S k) (hq : ∀ x ∈ L, ¬ S (qf x.f0)) : Tab w' lk b m nn pf qf L last where
  blk := blk_kept h.blk hk (hS _ (.inl rfl))
  mp := by
    obtain ⟨es, clock, h1⟩ := h.mp.blk
    exact h.mp.same ((blk_kept h1 hk (hS _ (.inr (.inl rfl)))).trans h1.symm)
  p := fun x hx => blk_kept (h.p x hx) hk (hS _ (.inr (.inr ⟨x, hx, rfl⟩)))
  q := fun x hx => blk_kept (h.q x hx) hk (hq x hx)
  inj := h.inj
  sorted := h.sorted
  rng := h.rng
  last0 := h.last0
  nnle := h.nnle
  st := h.st
/-- The table's own block turns alone. -/
theorem Tab.lock (h : Tab w lk b m nn pf qf L last) {lk' : Int} (hb : w'.heap[b]? = some (tabO lk' last m)) (ho : ∀ k, k < w.heap.size → k ≠ b → w'.heap[k]? = w.heap[k]?) : Tab w' lk' b m nn pf qf L last where
  blk := hb
  mp := by
    obtain ⟨es, clock, h1⟩ := h.mp.blk
    exact h.mp.same (ho m (lt_of h1) (Ne.symm h.b_ne_m))
  p := fun x hx => (ho _ (lt_of (h.p x hx)) (Ne.symm (h.b_ne_p hx))).trans (h.p x hx)
  q := fun x hx => (ho _ (lt_of (h.q x hx)) (fun e => h.q_not hx (.inl e))).trans (h.q x hx)
  inj := h.inj
  sorted := h.sorted
  rng := h.rng
  last0 := h.last0
  nnle := h.nnle
  st := h.st
theorem Tab.setLock (h : Tab w lk b m nn pf qf L last) (lk' : Int) : Tab (w.setCell ⟨b, 0, none⟩ (.int .i32 lk')) lk' b m nn pf qf L last :=
  h.lock (setCell_heap h.blk _) (fun k _ hk => Below.heap_setCell _ _ _ _ hk)
theorem Mp.push {D : DataW Unit} (ho : w.ownsMap Try.prog 3 rp m nn D) (hh : ∀ n : Int, Maps.has D (.int .i64 n) = L.any (fun x => x.f0 == n)) (ha : ∀ x ∈ L, ∀ z, D.atKey (.int .i64 x.f0) z = .lit (.int .i64 (pf x.f0))) {p : Nat} {n : Int} {x : S70} (hx : x.f0 = n) (hn : ∀ y ∈ L, y.f0 ≠ n)
    (hown : w'.ownsMap Try.prog 3 rp m (nn + 1) (D.put (.int .i64 n) (.lit (.int .i64 p)))) : Mp w' m (nn + 1) (fun k => if k = n then p else pf k) (L ++ [x]) := by
  have hD := ho.isMap
  have hk : WideAt.IsKeyLit (Lit.int .i64 n) := trivial
  refine ⟨_, hown, fun j => ?_, fun y hy z => ?_⟩
  · rw [List.any_append]
    by_cases e : j = n
    · subst e
      rw [has_put_same hD hk]
      simp [hx]
    · rw [has_put_other (fun h => e (by injection h)), hh]
      simp [hx, show ¬ n = j from fun h => e h.symm]
  · rcases List.mem_append.1 hy with hy | hy
    · have e : y.f0 ≠ n := hn y hy
      rw [atKey_put_other (fun h => e (by injection h))]
      show _ = DataW.lit (Lit.int .i64 ((if y.f0 = n then p else pf y.f0 : Nat) : Int))
      rw [if_neg e]
      exact ha y hy z
    · obtain rfl := List.mem_singleton.1 hy
      show _ = DataW.lit (Lit.int .i64 ((if y.f0 = n then p else pf y.f0 : Nat) : Int))
      rw [hx, if_pos rfl, atKey_put_same hD hk]
theorem Mp.drop {D : DataW Unit} (ho : w.ownsMap Try.prog 3 rp m nn D) (hh : ∀ n : Int, Maps.has D (.int .i64 n) = L.any (fun x => x.f0 == n)) (ha : ∀ x ∈ L, ∀ z, D.atKey (.int .i64 x.f0) z = .lit (.int .i64 (pf x.f0))) {i : Nat} {x : S70} (hi : L[i]? = some x) (hs : L.Pairwise (fun x y => x.f0 < y.f0))
    (hown : w'.ownsMap Try.prog 3 rp m nn (D.del (.int .i64 x.f0))) : Mp w' m nn pf (L.eraseIdx i) := by
  have hlt := (List.getElem?_eq_some_iff.1 hi).1
  have hx := (List.getElem?_eq_some_iff.1 hi).2
  have hmem : ∀ y, y ∈ L.eraseIdx i ↔ y ∈ L ∧ y.f0 ≠ x.f0 := by
    intro y
    rw [List.mem_eraseIdx_iff_getElem]
    constructor
    · rintro ⟨j, hj, hne, rfl⟩
      refine ⟨List.getElem_mem _, fun e => ?_⟩
      have hp := List.pairwise_iff_getElem.1 hs
      rcases Nat.lt_or_gt_of_ne hne with h | h
      · have := hp j i hj hlt h; rw [hx] at this; omega
      · have := hp i j hlt hj h; rw [hx] at this; omega
    · rintro ⟨hy, hne⟩
      obtain ⟨j, hj, rfl⟩ := List.mem_iff_getElem.1 hy
      exact ⟨j, hj, fun e => hne (by subst e; rw [hx]), rfl⟩
  refine ⟨_, hown, fun j => ?_, fun y hy z => ?_⟩
  · by_cases e : j = x.f0
    · subst e
      rw [has_del_same, eq_comm, List.any_eq_false]
      intro y hy
      simpa using ((hmem y).1 hy).2
    · rw [has_del_other (fun h => e (by injection h)), hh, Bool.eq_iff_iff, List.any_eq_true, List.any_eq_true]
      constructor
      · rintro ⟨y, hy, h2⟩
        have h3 : y.f0 = j := by simpa using h2
        exact ⟨y, (hmem y).2 ⟨hy, by rw [h3]; exact e⟩, h2⟩
      · rintro ⟨y, hy, h2⟩
        exact ⟨y, ((hmem y).1 hy).1, h2⟩
  · have h2 := (hmem y).1 hy
    rw [atKey_del_other (fun h => h2.2 (by injection h))]
    exact ha y h2.1 z
/-- One number more. -/
theorem Tab.push (h : Tab w lk b m nn pf qf L last) {lk' : Int} {p q : Nat} (hb : w'.heap[b]? = some (tabO lk' (last + 1) m)) (hp : w'.heap[p]? = some (ptrO q)) (hq : w'.heap[q]? = some (fateO 1 0)) (hpn : w.heap.size ≤ p) (hqn : w.heap.size ≤ q)
    (hm : Mp w' m (nn + 1) (fun k => if k = last + 1 then p else pf k) (L ++ [⟨last + 1, 1, 0⟩])) (ho : ∀ k, k < w.heap.size → k ≠ b → k ≠ m → w'.heap[k]? = w.heap[k]?) :
    Tab w' lk' b m (nn + 1) (fun k => if k = last + 1 then p else pf k) (fun k => if k = last + 1 then q else qf k) (L ++ [⟨last + 1, 1, 0⟩]) (last + 1) := by
  have hne : ∀ y ∈ L, y.f0 ≠ last + 1 := fun y hy e => by have := h.rng y hy; omega
  refine ⟨hb, hm, ?_, ?_, ?_, ?_, ?_, ?_, ?_, ?_⟩
  · intro y hy
    rcases List.mem_append.1 hy with hy | hy
    · simp only [if_neg (hne y hy)]
      exact (ho _ (lt_of (h.p y hy)) (Ne.symm (h.b_ne_p hy)) (Ne.symm (h.m_ne_p hy))).trans (h.p y hy)
    · obtain rfl := List.mem_singleton.1 hy
      simp only [if_pos]
      exact hp
  · intro y hy
    rcases List.mem_append.1 hy with hy | hy
    · simp only [if_neg (hne y hy)]
      exact (ho _ (lt_of (h.q y hy)) (fun e => h.q_not hy (.inl e)) (fun e => h.q_not hy (.inr (.inl e)))).trans (h.q y hy)
    · obtain rfl := List.mem_singleton.1 hy
      simp only [if_pos]
      exact hq
  · intro x hx y hy e
    rcases List.mem_append.1 hx with hx | hx <;> rcases List.mem_append.1 hy with hy | hy
    · rw [if_neg (hne x hx), if_neg (hne y hy)] at e
      exact h.inj x hx y hy e
    · obtain rfl := List.mem_singleton.1 hy
      rw [if_neg (hne x hx), if_pos rfl] at e
      have := lt_of (h.p x hx)
      omega
    · obtain rfl := List.mem_singleton.1 hx
      rw [if_neg (hne y hy), if_pos rfl] at e
      have := lt_of (h.p y hy)
      omega
    · obtain rfl := List.mem_singleton.1 hx
      obtain rfl := List.mem_singleton.1 hy
      rfl
  · rw [List.pairwise_append]
    refine ⟨h.sorted, List.pairwise_singleton _ _, fun x hx y hy => ?_⟩
    obtain rfl := List.mem_singleton.1 hy
    have := h.rng x hx
    show x.f0 < last + 1
    omega
  · intro y hy
    have h0 := h.last0
    rcases List.mem_append.1 hy with hy | hy
    · have := h.rng y hy; omega
    · obtain rfl := List.mem_singleton.1 hy
      show 1 ≤ last + 1 ∧ last + 1 ≤ last + 1
      omega
  · have := h.last0; omega
  · have := h.nnle; omega
  · intro y hy
    rcases List.mem_append.1 hy with hy | hy
    · exact h.st y hy
    · obtain rfl := List.mem_singleton.1 hy
      show (1 : Int) ≤ 1 ∧ (1 : Int) ≤ 4
      decide
theorem mem_set {i : Nat} {x y z : S70} (hi : L[i]? = some x) (hs : L.Pairwise (fun x y => x.f0 < y.f0)) (hy : y ∈ L.set i z) : y = z ∨ (y ∈ L ∧ y.f0 ≠ x.f0) := by
  obtain ⟨j, hj, rfl⟩ := List.mem_iff_getElem.1 hy
  have hlt := (List.getElem?_eq_some_iff.1 hi).1
  have hx := (List.getElem?_eq_some_iff.1 hi).2
  have hj' : j < L.length := by simpa using hj
  rw [List.getElem_set]
  by_cases e : i = j
  · exact .inl (by rw [if_pos e])
  · rw [if_neg e]
    refine .inr ⟨List.getElem_mem _, fun h => ?_⟩
    have hp := List.pairwise_iff_getElem.1 hs
    rcases Nat.lt_or_gt_of_ne e with h' | h'
    · have := hp i j hlt hj' h'; rw [hx] at this; omega
    · have := hp j i hj' hlt h'; rw [hx] at this; omega
theorem map_set {i : Nat} {x z : S70} (hi : L[i]? = some x) (hz : z.f0 = x.f0) : (L.set i z).map (·.f0) = L.map (·.f0) := by
  have hlt := (List.getElem?_eq_some_iff.1 hi).1
  have hx := (List.getElem?_eq_some_iff.1 hi).2
  rw [List.map_set]
  apply List.ext_getElem?
  intro j
  rw [List.getElem?_set]
  by_cases e : i = j
  · subst e
    rw [if_pos rfl, if_pos (by simpa using hlt), List.getElem?_map, hi, hz]
    rfl
  · rw [if_neg e]
/-- One number's state turns. -/
theorem Tab.swap (h : Tab w lk b m nn pf qf L last) {i : Nat} {x : S70} {s t : Int} {r : Nat} (hi : L[i]? = some x) (hr : w.heap[r]? = some (fateO s t)) (hs1 : 1 ≤ s) (hs4 : s ≤ 4) :
    Tab (w.setCell ⟨pf x.f0, 0, none⟩ (pt r)) lk b m nn pf (fun k => if k = x.f0 then r else qf k) (L.set i ⟨x.f0, s, t⟩) last := by
  have hxm : x ∈ L := List.mem_of_getElem? hi
  have hp := h.p x hxm
  have ho : ∀ k, k ≠ pf x.f0 → (w.setCell ⟨pf x.f0, 0, none⟩ (pt r)).heap[k]? = w.heap[k]? := fun k hk => Below.heap_setCell _ _ _ _ hk
  have hfate : ∀ k s' t', w.heap[k]? = some (fateO s' t') → k ≠ pf x.f0 := fun k s' t' hk e => by
    rw [e, hp] at hk
    exact absurd (cells_ty hk) (by decide)
  have hmm := map_set (z := ⟨x.f0, s, t⟩) hi rfl
  refine ⟨(ho b (h.b_ne_p hxm)).trans h.blk, ?_, ?_, ?_, ?_, ?_, ?_, h.last0, h.nnle, ?_⟩
  · obtain ⟨D, hown, hh, ha⟩ := h.mp.same (ho m (h.m_ne_p hxm))
    refine ⟨D, hown, fun n => ?_, fun y hy z => ?_⟩
    · rw [hh, show (L.any fun x => x.f0 == n) = ((L.map (·.f0)).any (· == n)) by rw [List.any_map]; rfl, ← hmm, List.any_map]
      rfl
    · rcases mem_set hi h.sorted hy with rfl | ⟨hy, _⟩
      · exact ha x hxm z
      · exact ha y hy z
  · intro y hy
    rcases mem_set hi h.sorted hy with rfl | ⟨hy, hne⟩
    · simp only [if_pos]
      exact setCell_heap hp _
    · rw [if_neg hne, ho _ (fun e => hne (h.inj y hy x hxm e))]
      exact h.p y hy
  · intro y hy
    rcases mem_set hi h.sorted hy with rfl | ⟨hy, hne⟩
    · simp only [if_pos]
      exact (ho _ (hfate _ _ _ hr)).trans hr
    · rw [if_neg hne]
      exact (ho _ (hfate _ _ _ (h.q y hy))).trans (h.q y hy)
  · intro y hy z hz e
    rcases mem_set hi h.sorted hy with rfl | ⟨hy, hne⟩ <;> rcases mem_set hi h.sorted hz with rfl | ⟨hz, hne'⟩
    · rfl
    · exact h.inj x hxm z hz e
    · exact h.inj y hy x hxm e
    · exact h.inj y hy z hz e
  · have h1 : (L.map (·.f0)).Pairwise (fun a b => a < b) := List.pairwise_map.2 h.sorted
    rw [← hmm] at h1
    exact List.pairwise_map.1 h1
  · intro y hy
    rcases mem_set hi h.sorted hy with rfl | ⟨hy, _⟩
    · exact h.rng x hxm
    · exact h.rng y hy
  · intro y hy
    rcases mem_set hi h.sorted hy with rfl | ⟨hy, _⟩
    · exact ⟨hs1, hs4⟩
    · exact h.st y hy
/-- One number less. -/
theorem Tab.drop (h : Tab w lk b m nn pf qf L last) {i : Nat} {x : S70} (hi : L[i]? = some x)
    (hm : Mp w' m nn pf (L.eraseIdx i)) (ho : ∀ k, k < w.heap.size → k ≠ m → w'.heap[k]? = w.heap[k]?) :
    Tab w' lk b m nn pf qf (L.eraseIdx i) last := by
  have hsub : ∀ y ∈ L.eraseIdx i, y ∈ L := fun y hy => List.mem_of_mem_eraseIdx hy
  refine ⟨(ho b (lt_of h.blk) h.b_ne_m).trans h.blk, hm, ?_, ?_, ?_, ?_, ?_, h.last0, h.nnle, ?_⟩
  · exact fun y hy => (ho _ (lt_of (h.p y (hsub y hy))) (Ne.symm (h.m_ne_p (hsub y hy)))).trans (h.p y (hsub y hy))
  · exact fun y hy => (ho _ (lt_of (h.q y (hsub y hy))) (fun e => h.q_not (hsub y hy) (.inr (.inl e)))).trans (h.q y (hsub y hy))
  · exact fun y hy z hz e => h.inj y (hsub y hy) z (hsub z hz) e
  · exact h.sorted.sublist (List.eraseIdx_sublist _ _)
  · exact fun y hy => h.rng y (hsub y hy)
  · exact fun y hy => h.st y (hsub y hy)
end
end Go.Proofs.Ytckeelbodieblaa.St
