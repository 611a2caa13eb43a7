/- Part 5 of what the proof of SetsOwn stands on: words for walks, printed functions with their contracts, plain laws. -/
import Derived.Test.YtldlenjfpjihdaaGreatKSetsOwn3
section
namespace Go.Proofs.YtldlenjfpjihdaaGreat.PS
open Go Go.RowKit Go.Proofs Go.Maps Go.WideMaps Go.Proofs.YtldlenjfpjihdaaGreatW.PrintWords Go.Proofs.YtldlenjfpjihdaaGreatW.PrintLast Go.Proofs.YtldlenjfpjihdaaGreatW.PrintMore
set_option linter.unusedVariables false
set_option linter.unusedSimpArgs false
open Go.Proofs.YtldlenjfpjihdaaGreat.PU (unionR)
theorem own_ne {α β : Type} {d : Kd α} {d' : Kd β} {e e' b b' : Nat} {w : World} {ok ok' : Nat → Prop} {v v' : Value} {xs : List α} {ys : List β} (h : d.R e w b ok v xs) (h' : d'.R e' w b' ok' v' ys) (hne : e ≠ e') : ∀ k, some k = v.ownBlock → some k ≠ v'.ownBlock := by
  intro k hk hk'
  obtain ⟨c, hc⟩ := Kd.R_typed h k hk.symm
  obtain ⟨c', hc'⟩ := Kd.R_typed h' k hk'.symm
  rw [hc] at hc'
  injection hc' with hc'
  injection hc' with _ ht
  exact hne ht
theorem own_ne_blk {α : Type} {d : Kd α} {e b g t : Nat} {w : World} {ok : Nat → Prop} {v : Value} {xs : List α} {cs : Array Value} {fr : Nat × Nat} (h : d.R e w b ok v xs) (hb : w.heap[g]? = some (.cells cs t fr)) (hne : e ≠ t) : ∀ k, some k = v.ownBlock → k ≠ g := by
  intro k hk e1
  subst e1
  obtain ⟨c, hc⟩ := Kd.R_typed h k hk.symm
  rw [hc] at hb
  injection hb with hb
  injection hb with _ ht
  exact hne ht
theorem own_ne_map {α : Type} {d : Kd α} {e b m : Nat} {w : World} {ok : Nat → Prop} {v : Value} {xs : List α} (h : d.R e w b ok v xs) (hm : ∃ es clock, w.heap[m]? = some (.map es clock)) : ∀ k, some k = v.ownBlock → k ≠ m := by
  intro k hk e1
  subst e1
  obtain ⟨c, hc⟩ := Kd.R_typed h k hk.symm
  obtain ⟨es, clock, hm⟩ := hm
  rw [hm] at hc
  cases hc
theorem R_tight46 {w : World} {b : Nat} {ok : Nat → Prop} {v : Value} {xs : List S46} (h : Kd.R k46 46 w b ok v xs) : Kd.R k46 46 w b (fun k => some k = v.ownBlock) v xs :=
  ⟨fun k hk => hk.symm, h.2.imp_ (fun p cs hp => by rw [k46_openM hp]; exact k46_mkM _ _ _ p)⟩
theorem R_tight37 {w : World} {b : Nat} {ok : Nat → Prop} {v : Value} {xs : List S37} (h : Kd.R k37 37 w b ok v xs) : Kd.R k37 37 w b (fun k => some k = v.ownBlock) v xs :=
  ⟨fun k hk => hk.symm, h.2.imp_ (fun p cs hp => by rw [k37_openM hp]; exact k37_mkM _ _ _ p)⟩
/-- What a place's ranges are, behind some places. -/
def rowNow (S : List S46) (done : List SPl) (p : SPl) : List S44 := if p ∈ done then unionR (rangesAt S p) else rangesAt S p
structure NS (B m bo : Nat) (w1 w : World) (nn : Nat) (S : List S46) (done : List SPl) (vg : SPl → Value) (vp vs : Value) (pp : List S37) (sp : List S46) : Prop where
  mp : MapL w m nn (fun p => if hasPl S p = true then some (vg p) else none)
  row : ∀ p, Kd.R k44 44 w B (fun k => some k = (vg p).ownBlock) (vg p) (rowNow S done p)
  nil : ∀ p, hasPl S p = false → vg p = .slice none 0 0
  out : w.heap[bo]? = some (.cells #[vp, vs, .slice none 0 0] 25 (0, 0))
  rs : Kd.R k46 46 w B (fun k => some k = vs.ownBlock) vs sp
  rp : Kd.R k37 37 w B (fun k => some k = vp.ownBlock) vp pp
  low : Below B w1 w
  bm : B ≤ m
  bb : B ≤ bo
  le : B ≤ w1.heap.size
section
variable {B m bo nn : Nat} {w1 w w' : World} {S : List S46} {done : List SPl} {vg : SPl → Value} {vp vs : Value} {pp : List S37} {sp : List S46}
theorem NS.below (h : NS B m bo w1 w nn S done vg vp vs pp sp) (hb : Below w.heap.size w w') : NS B m bo w1 w' nn S done vg vp vs pp sp :=
  ⟨h.mp.below hb, fun p => Kd.R_below (h.row p) hb, h.nil, (hb.block bo (lt_of h.out)).trans h.out, Kd.R_below h.rs hb, Kd.R_below h.rp hb, Below.trans h.low (hb.mono (Nat.le_trans h.le h.low.size)), h.bm, h.bb, h.le⟩
theorem NS.lt (h : NS B m bo w1 w nn S done vg vp vs pp sp) : m < w.heap.size ∧ bo < w.heap.size := ⟨h.mp.lt, lt_of h.out⟩
theorem NS.ne (h : NS B m bo w1 w nn S done vg vp vs pp sp) : m ≠ bo := by
  intro e
  subst e
  obtain ⟨es, clock, hm⟩ := h.mp.blk
  have := h.out
  rw [hm] at this
  cases this
/-- One more span. -/
theorem NS.span (h : NS B m bo w1 w nn S done vg vp vs pp sp) {v1 : Value} {w2 : World} {x : S46} (hR : Kd.R k46 46 w2 B (fun _ => True) v1 (sp ++ [x])) (hg : w.grownBy w2 vs.ownBlock) :
    NS B m bo w1 (w2.setCell ⟨bo, 1, none⟩ v1) nn S done vg vp v1 pp (sp ++ [x]) := by
  have hz := h.lt
  have hm1 : w2.heap[m]? = w.heap[m]? := hg.block m hz.1 (fun e => own_ne_map h.rs h.mp.blk m e rfl)
  have hb1 : w2.heap[bo]? = some (.cells #[vp, vs, .slice none 0 0] 25 (0, 0)) := (hg.block bo hz.2 (fun e => own_ne_blk h.rs h.out (by decide) bo e rfl)).trans h.out
  have hrow : ∀ p, Kd.R k44 44 w2 B (fun k => some k = (vg p).ownBlock) (vg p) (rowNow S done p) := fun p => Kd.R_grown (h.row p) hg (own_ne (h.row p) h.rs (by decide))
  have hrp : Kd.R k37 37 w2 B (fun k => some k = vp.ownBlock) vp pp := Kd.R_grown h.rp hg (own_ne h.rp h.rs (by decide))
  refine ⟨(h.mp.same hm1).same ?_, fun p => Kd.R_far (hrow p) (own_ne_blk (hrow p) hb1 (by decide)) _, h.nil, ?_, Kd.R_far (R_tight46 hR) (own_ne_blk hR hb1 (by decide)) _, Kd.R_far hrp (own_ne_blk hrp hb1 (by decide)) _, ?_, h.bm, h.bb, h.le⟩
  · exact Below.heap_setCell _ _ _ _ h.ne
  · have := setCell_heap (i := 1) hb1 v1
    simpa using this
  · exact (h.low.grown hg (Nat.le_trans h.le h.low.size) (fun k e => Kd.R_base h.rs k e)).setCell (p := ⟨bo, 1, none⟩) h.bb _
/-- One more point. -/
theorem NS.point (h : NS B m bo w1 w nn S done vg vp vs pp sp) {v1 : Value} {w2 : World} {x : S37} (hR : Kd.R k37 37 w2 B (fun _ => True) v1 (pp ++ [x])) (hg : w.grownBy w2 vp.ownBlock) :
    NS B m bo w1 (w2.setCell ⟨bo, 0, none⟩ v1) nn S done vg v1 vs (pp ++ [x]) sp := by
  have hz := h.lt
  have hm1 : w2.heap[m]? = w.heap[m]? := hg.block m hz.1 (fun e => own_ne_map h.rp h.mp.blk m e rfl)
  have hb1 : w2.heap[bo]? = some (.cells #[vp, vs, .slice none 0 0] 25 (0, 0)) := (hg.block bo hz.2 (fun e => own_ne_blk h.rp h.out (by decide) bo e rfl)).trans h.out
  have hrow : ∀ p, Kd.R k44 44 w2 B (fun k => some k = (vg p).ownBlock) (vg p) (rowNow S done p) := fun p => Kd.R_grown (h.row p) hg (own_ne (h.row p) h.rp (by decide))
  have hrs : Kd.R k46 46 w2 B (fun k => some k = vs.ownBlock) vs sp := Kd.R_grown h.rs hg (own_ne h.rs h.rp (by decide))
  refine ⟨(h.mp.same hm1).same ?_, fun p => Kd.R_far (hrow p) (own_ne_blk (hrow p) hb1 (by decide)) _, h.nil, ?_, Kd.R_far hrs (own_ne_blk hrs hb1 (by decide)) _, Kd.R_far (R_tight37 hR) (own_ne_blk hR hb1 (by decide)) _, ?_, h.bm, h.bb, h.le⟩
  · exact Below.heap_setCell _ _ _ _ h.ne
  · have := setCell_heap (i := 0) hb1 v1
    simpa using this
  · exact (h.low.grown hg (Nat.le_trans h.le h.low.size) (fun k e => Kd.R_base h.rp k e)).setCell (p := ⟨bo, 0, none⟩) h.bb _
/-- A place's ranges are united. -/
theorem NS.union (h : NS B m bo w1 w nn S done vg vp vs pp sp) (hn : nn < maxLen) {p : SPl} (hp : wfL p) (hh : hasPl S p = true) (hd : p ∉ done) {u : Value} (hu : Kd.R k44 44 w B (fun _ => True) u (unionR (rangesAt S p))) :
    ∃ w3, (Instr.mapUpdate 67 (.map (some m)) (lv p) u).run Tryz.prog w = .ok () w3 ∧ NS B m bo w1 w3 (nn + 1) S (done ++ [p]) (upd vg p u) vp vs pp sp ∧ w.grownBy w3 (some m) := by
  obtain ⟨w3, hrun, hM, hg⟩ := h.mp.put KL Tryz.underlying67 hn hp u
  have hmb := h.mp.blk
  have hz := h.lt
  refine ⟨w3, hrun, ⟨hM.congr (fun q hq => ?_), fun q => ?_, fun q hq => ?_, (hg.block bo hz.2 (fun e => h.ne (Option.some.inj e).symm)).trans h.out, Kd.R_grown h.rs hg (fun k hk e => own_ne_map h.rs hmb k hk (Option.some.inj e)), Kd.R_grown h.rp hg (fun k hk e => own_ne_map h.rp hmb k hk (Option.some.inj e)), h.low.grown hg (Nat.le_trans h.le h.low.size) (fun k e => by cases e; exact h.bm), h.bm, h.bb, h.le⟩, hg⟩
  · unfold upd
    by_cases e : q = p
    · subst e; simp [hh]
    · simp [e]
  · unfold upd rowNow
    by_cases e : q = p
    · subst e
      rw [if_pos rfl, if_pos (by simp)]
      exact Kd.R_grown (R_tight hu) hg (fun k hk e => own_ne_map hu hmb k hk (Option.some.inj e))
    · rw [if_neg e]
      have : (q ∈ done ++ [p]) ↔ q ∈ done := by simp [e]
      have hr := h.row q
      unfold rowNow at hr
      simp only [this]
      exact Kd.R_grown hr hg (fun k hk e => own_ne_map hr hmb k hk (Option.some.inj e))
  · unfold upd
    rw [if_neg (fun e => by subst e; rw [hh] at hq; cases hq)]
    exact h.nil q hq
end
theorem OwnG.below {α : Type} {enc : α → List Value} {C K base : Nat} {w w' : World} {v : Value} {xs : List α} (h : OwnG enc C K w base v xs) (hb : Below w.heap.size w w') : OwnG enc C K w' base v xs := by
  rcases h with h | ⟨g, cap, cur, e, h1, h2, h3, h4, h5, h6⟩
  · exact .inl h
  · exact .inr ⟨g, cap, cur, e, h1, (hb.block g (lt_of h2)).trans h2, h3, h4, h5, h6.same (hb.block g (lt_of h2))⟩
theorem OwnG.grown {α : Type} {enc : α → List Value} {C K base : Nat} {w w' : World} {row : Option Nat} {v : Value} {xs : List α} (h : OwnG enc C K w base v xs) (hg : w.grownBy w' row) (hr : ∀ k cur, row = some k → w.heap[k]? ≠ some (.cells cur K (0, 0))) : OwnG enc C K w' base v xs := by
  rcases h with h | ⟨g, cap, cur, e, h1, h2, h3, h4, h5, h6⟩
  · exact .inl h
  · have := hg.block g (lt_of h2) (fun e => hr g cur e.symm h2)
    exact .inr ⟨g, cap, cur, e, h1, this.trans h2, h3, h4, h5, h6.same this⟩
/-- A row of one's own, read. -/
theorem OwnG.read {α : Type} {enc : α → List Value} {C K base : Nat} {w : World} {v : Value} {xs : List α} (h : OwnG enc C K w base v xs) : ∃ A c, v = .slice A xs.length c ∧ xs.length ≤ c ∧ ∀ (i : Nat) (x : α), xs[i]? = some x → ∃ g, A = some ⟨g, 0, none⟩ ∧ base ≤ g ∧ g < w.heap.size ∧ ∀ (j : Nat) (u : Value), (enc x)[j]? = some u → w.cell? ⟨g, i * C + j, none⟩ = some u := by
  rcases h with ⟨rfl, rfl⟩ | ⟨g, cap, cur, rfl, h1, h2, h3, h4, h5, h6⟩
  · exact ⟨none, 0, rfl, Nat.le_refl _, fun i x hx => by simp at hx⟩
  · exact ⟨_, cap, rfl, h3, fun i x hx => ⟨g, rfl, h1, lt_of h2, fun j u hu => (h6 i x hx j u hu).1⟩⟩
theorem reps_flat {α : Type} {R : α → List Value → Prop} {enc : α → List Value} {C : Nat} (hk : ∀ x, (enc x).length = C) (hR : ∀ x cs, R x cs → cs = enc x) : ∀ (xs : List α) (cs : List Value), Reps R C xs cs → cs = xs.flatMap enc
  | [], cs, h => by
    have := h.1
    simp at this
    simpa using this
  | x :: r, cs, h => by
    have h1 := h.1
    have hx := hR x _ (h.2 0 x rfl)
    rw [Nat.zero_mul, List.drop_zero] at hx
    have h2 : Reps R C r (cs.drop C) := by
      refine ⟨by rw [List.length_drop, h1, List.length_cons, Nat.succ_mul]; omega, fun j p hj => ?_⟩
      have := h.2 (j + 1) p (by simpa using hj)
      rwa [List.drop_drop, show C + j * C = (j + 1) * C by rw [Nat.succ_mul]; omega]
    rw [List.flatMap_cons, ← reps_flat hk hR r _ h2, ← hx, List.take_append_drop]
theorem OwnG.of_R37 {w : World} {b : Nat} {ok : Nat → Prop} {v : Value} {xs : List S37} (h : Kd.R k37 37 w b ok v xs) : OwnG enc37 3 37 w b v xs := by
  obtain ⟨_, inner, ho, hr⟩ := h
  have := reps_flat (enc := enc37) (C := 3) (fun _ => rfl) (fun x cs hx => k37_openM hx) xs inner hr
  subst this
  exact OwnG.of_own (enc := enc37) (C := 3) (fun _ => rfl) ho
theorem OwnG.of_R46 {w : World} {b : Nat} {ok : Nat → Prop} {v : Value} {xs : List S46} (h : Kd.R k46 46 w b ok v xs) : OwnG enc46 5 46 w b v xs := by
  obtain ⟨_, inner, ho, hr⟩ := h
  have := reps_flat (enc := enc46) (C := 5) (fun _ => rfl) (fun x cs hx => k46_openM hx) xs inner hr
  subst this
  exact OwnG.of_own (enc := enc46) (C := 5) (fun _ => rfl) ho
theorem OwnG.C37 {w : World} {b : Nat} {v : Value} {xs : List S37} (h : OwnG enc37 3 37 w b v xs) : ∃ A c, v = .slice A xs.length c ∧ xs.length ≤ c ∧ Kd.C k37 w A xs.length xs := by
  rcases h with ⟨rfl, rfl⟩ | ⟨g, cap, cur, rfl, h1, h2, h3, h4, h5, h6⟩
  · exact ⟨none, 0, rfl, Nat.le_refl _, (Kd.R_reads' (Kd.R_nil k37 37 w 0 (fun _ => True))).2.2⟩
  · exact ⟨_, cap, rfl, h3, RowP.C h6 (by unfold maxLen at h4; omega)⟩
theorem OwnG.C46 {w : World} {b : Nat} {v : Value} {xs : List S46} (h : OwnG enc46 5 46 w b v xs) : ∃ A c, v = .slice A xs.length c ∧ xs.length ≤ c ∧ Kd.C k46 w A xs.length xs := by
  rcases h with ⟨rfl, rfl⟩ | ⟨g, cap, cur, rfl, h1, h2, h3, h4, h5, h6⟩
  · exact ⟨none, 0, rfl, Nat.le_refl _, (Kd.R_reads' (Kd.R_nil k46 46 w 0 (fun _ => True))).2.2⟩
  · exact ⟨_, cap, rfl, h3, RowS.C h6 (by unfold maxLen at h4; omega)⟩
/-- A foot whose rows are all one's own. -/
structure FtO (w : World) (b : Nat) (v : Value) (f : Ft) (v0 v1 v2 : Value) : Prop where
  eq : v = .agg #[v0, v1, v2]
  h0 : OwnG enc37 3 37 w b v0 f.ps
  h1 : OwnG enc46 5 46 w b v1 f.ss
  h2 : OwnG enc37 3 37 w b v2 f.ws
  ne : ∀ k, v0.ownBlock = some k → v2.ownBlock ≠ some k
theorem FtO.V {w : World} {b : Nat} {v : Value} {f : Ft} {v0 v1 v2 : Value} (h : FtO w b v f v0 v1 v2) : FtV w v f := by
  obtain ⟨A0, c0, e0, l0, C0⟩ := h.h0.C37
  obtain ⟨A1, c1, e1, l1, C1⟩ := h.h1.C46
  obtain ⟨A2, c2, e2, l2, C2⟩ := h.h2.C37
  exact ⟨A0, A1, A2, c0, c1, c2, by rw [h.eq, e0, e1, e2]; rfl, C0, l0, C1, l1, C2, l2⟩
theorem FtO.below {w w' : World} {b : Nat} {v : Value} {f : Ft} {v0 v1 v2 : Value} (h : FtO w b v f v0 v1 v2) (hb : Below w.heap.size w w') : FtO w' b v f v0 v1 v2 := ⟨h.eq, h.h0.below hb, h.h1.below hb, h.h2.below hb, h.ne⟩
/-- What a foot's normal one is. -/
structure NormOf (f g : Ft) (pl : List SPl) : Prop where
  sp : pl.Pairwise ltL
  mp : ∀ p, p ∈ pl ↔ hasPl f.ss p = true
  ss : g.ss = pl.flatMap (fun p => (unionR (rangesAt f.ss p)).map (fun r => ⟨p.f0, p.f1, r⟩))
  ps : ∃ q, Sorts f.ps q ∧ g.ps = q.filter (fun x => !((unionR (rangesAt f.ss ⟨x.f0, x.f1⟩)).any (fun r => hasB r x.f2)))
  ws : Sorts f.ws g.ws
set_option maxHeartbeats 4000000 in
theorem norm2_any (r : S44) (p : S37) (b : Nat) (w : World) (hb : w.heap[b]? = some (pO p)) :
    Calls Tryz.prog 54 (#[.agg #[.string r.f0, .string r.f1, .bool r.f2]] ++ #[.pointer (some ⟨b, 0, none⟩)]) w fun e w' => e = .returned (.bool (hasB r p.f2)) ∧ Below w.heap.size w w' := by
  have h2 : w.cell? ⟨b, 2, none⟩ = some (.string p.f2) := cell_of hb 2
  have hlt := lt_of hb
  have n1 : (b = w.heap.size) = False := eq_false (by omega)
  clear hb
  have hh := fun W => chas_any r p.f2 W
  go_enter Tryz.func54, Tryz.ntmps54
  go_wp2_with (go_at_call 36; refine (hh _).mono ?_; rintro e w' ⟨rfl, hB⟩)
  go_ret
  exact ⟨rfl, below_step (below_alloc (Below.refl _ _) _) hB⟩
theorem enter54 : ∀ args w, (callFunc 54 args).run Tryz.prog w = .ok (.enter 54 args) w := fun args w => by simp [go_sem]
theorem contf_rng (p : S37) (b : Nat) (A : Option Addr) (xs : List S44) (c : Nat) (w : World) (hC : Kd.C k44 w A xs.length xs) (hb : w.heap[b]? = some (pO p)) :
    Calls Tryz.prog 53 #[.slice A xs.length c, .func (.func 54) #[] #[.pointer (some ⟨b, 0, none⟩)]] w fun e w' => e = .returned (.bool (xs.any (fun r => hasB r p.f2))) ∧ Below w.heap.size w w' := by
  have hi := PA.idxf_rng (fun r => hasB r p.f2) 54 #[.pointer (some ⟨b, 0, none⟩)] enter54 A xs c w hC (fun W x hW => (norm2_any x p b W ((hW.block _ (lt_of hb)).trans hb)).mono fun e w' h => ⟨h.1, Below.trans hW (h.2.mono hW.size)⟩)
  clear hb hC
  go_enter Tryz.func53, Tryz.ntmps53
  go_wp2_with (go_at_call 77; refine hi.mono ?_; rintro e w' ⟨rfl, hb⟩)
  go_ret
  exact ⟨by rw [← idxF_nonneg]; rfl, hb⟩
/-- append(v, p), p being boxed somewhere. -/
theorem app37b {ops : Array Oper} {rest : List Oper} {o : Oper} {a : Act} {Q : Exit → Act → World → Prop} (W : World) (hgd : o.guard = none) (s x : Operand) (ho : o.op = .call { callee := .builtin .append, args := #[s, x], argTypes := #[22, 22] })
    (b : Nat) (v : Value) (xs : List S37) (p : S37) (hs : a.eval s = v) (g : Nat) (hx : a.eval x = .slice (some ⟨g, 0, none⟩) 1 1) (hg : W.heap[g]? = some (.cells #[.int .i64 p.f0, .int .i64 p.f1, .string p.f2] 37 (0, 0)))
    (HO : Kd.R k37 37 W b (fun _ => True) v xs) (hbase : b ≤ W.heap.size) (hl : (xs.length + 1) * 32 ≤ 140737488355328)
    (h : ∀ v1 w1, Kd.R k37 37 w1 b (fun _ => True) v1 (xs ++ [p]) → W.grownBy w1 v.ownBlock → (v1.ownBlock = v.ownBlock ∨ v1.ownBlock = some W.heap.size) → wpList Tryz.prog ops Q rest (a.put o.dst v1) w1) :
    wpList Tryz.prog ops Q (o :: rest) a W := by
  obtain ⟨i0, hi, hz0, hz1, hz2⟩ := info_parts info37
  obtain ⟨h0, inner, hown, hr⟩ := HO
  have hown' : W.ownsRow b 37 3 v xs.length inner := hown
  refine wpList_append_own_at W hgd s x 22 ho b 37 i0 _ 3 32 Tryz.underlying22 hi hz0 hz1 hz2 rfl (by decide) v xs.length inner hs hown' ⟨g, 0, none⟩ 1 1 [.int .i64 p.f0, .int .i64 p.f1, .string p.f2] hx rfl (World.news_of_block hg) (by intro u hu; simp at hu; rcases hu with rfl | rfl | rfl <;> rfl) (by unfold maxLen; omega) hl hbase ?_
  intro v1 w1 hown1 hg1 hnil hat
  exact h v1 w1 (Kd.R_appended h0 hr (k37_mkM W b (fun _ => False) p) (fun k hk => hk.elim) (fun _ _ => trivial) hown1 hg1 (by rcases hat with h | h; exact .inl h; exact .inr ⟨_, h, Nat.le_refl _⟩)) hg1 hat
theorem app46 {ops : Array Oper} {rest : List Oper} {o : Oper} {a : Act} {Q : Exit → Act → World → Prop} (W : World) (hgd : o.guard = none) (s x : Operand) (ho : o.op = .call { callee := .builtin .append, args := #[s, x], argTypes := #[23, 23] })
    (b : Nat) (v : Value) (xs : List S46) (p : S46) (hs : a.eval s = v) (g : Nat) (hx : a.eval x = .slice (some ⟨g, 0, none⟩) 1 1) (hg : W.heap[g]? = some (.cells #[.int .i64 p.f0, .int .i64 p.f1, .string p.f2.f0, .string p.f2.f1, .bool p.f2.f2] 46 (0, 0)))
    (HO : Kd.R k46 46 W b (fun _ => True) v xs) (hbase : b ≤ W.heap.size) (hl : (xs.length + 1) * 56 ≤ 140737488355328)
    (h : ∀ v1 w1, Kd.R k46 46 w1 b (fun _ => True) v1 (xs ++ [p]) → W.grownBy w1 v.ownBlock → (v1.ownBlock = v.ownBlock ∨ v1.ownBlock = some W.heap.size) → wpList Tryz.prog ops Q rest (a.put o.dst v1) w1) :
    wpList Tryz.prog ops Q (o :: rest) a W := by
  obtain ⟨i0, hi, hz0, hz1, hz2⟩ := info_parts info46
  obtain ⟨h0, inner, hown, hr⟩ := HO
  have hown' : W.ownsRow b 46 5 v xs.length inner := hown
  refine wpList_append_own_at W hgd s x 23 ho b 46 i0 _ 5 56 Tryz.underlying23 hi hz0 hz1 hz2 rfl (by decide) v xs.length inner hs hown' ⟨g, 0, none⟩ 1 1 [.int .i64 p.f0, .int .i64 p.f1, .string p.f2.f0, .string p.f2.f1, .bool p.f2.f2] hx rfl (World.news_of_block hg) (by intro u hu; simp at hu; rcases hu with rfl | rfl | rfl | rfl | rfl <;> rfl) (by unfold maxLen; omega) hl hbase ?_
  intro v1 w1 hown1 hg1 hnil hat
  exact h v1 w1 (Kd.R_appended h0 hr (k46_mkM W b (fun _ => False) p) (fun k hk => hk.elim) (fun _ _ => trivial) hown1 hg1 (by rcases hat with h | h; exact .inl h; exact .inr ⟨_, h, Nat.le_refl _⟩)) hg1 hat
theorem R_loose37 {w : World} {b : Nat} {ok : Nat → Prop} {v : Value} {xs : List S37} (h : Kd.R k37 37 w b ok v xs) : Kd.R k37 37 w b (fun _ => True) v xs := Kd.R_mono h (fun _ _ => trivial)
theorem R_loose46 {w : World} {b : Nat} {ok : Nat → Prop} {v : Value} {xs : List S46} (h : Kd.R k46 46 w b ok v xs) : Kd.R k46 46 w b (fun _ => True) v xs := Kd.R_mono h (fun _ _ => trivial)
section
variable {B m bo nn : Nat} {w1 w w' : World} {S : List S46} {done : List SPl} {vg : SPl → Value} {vp vs : Value} {pp : List S37} {sp : List S46}
theorem NS.new (h : GM B m w nn S vg) (hl : Below B w1 w) (hm : B ≤ m) (hle : B ≤ w1.heap.size) : NS B m w.heap.size w1 (w.alloc (.cells #[.slice none 0 0, .slice none 0 0, .slice none 0 0] 25)) nn S [] vg (.slice none 0 0) (.slice none 0 0) [] [] := by
  have hb := below_alloc (Below.refl w.heap.size w) (.cells #[.slice none 0 0, .slice none 0 0, .slice none 0 0] 25)
  refine ⟨h.mp.below hb, fun p => ?_, h.nil, heap_new _ _, Kd.R_nil _ _ _ _ _, Kd.R_nil _ _ _ _ _, Below.trans hl (hb.mono (Nat.le_trans hle hl.size)), hm, Nat.le_trans hle hl.size, hle⟩
  have := Kd.R_below (h.row p) hb
  unfold rowNow
  simpa using this
theorem NS.outS (h : NS B m bo w1 w nn S done vg vp vs pp sp) (hg : w.grownBy w' vs.ownBlock) : w'.heap[bo]? = some (.cells #[vp, vs, .slice none 0 0] 25 (0, 0)) := (hg.block bo h.lt.2 (fun e => own_ne_blk h.rs h.out (by decide) bo e rfl)).trans h.out
theorem NS.outP (h : NS B m bo w1 w nn S done vg vp vs pp sp) (hg : w.grownBy w' vp.ownBlock) : w'.heap[bo]? = some (.cells #[vp, vs, .slice none 0 0] 25 (0, 0)) := (hg.block bo h.lt.2 (fun e => own_ne_blk h.rp h.out (by decide) bo e rfl)).trans h.out
/-- ranges[p]. -/
theorem NS.look (h : NS B m bo w1 w nn S done vg vp vs pp sp) {p : SPl} (hp : wfL p) : (Instr.lookup 67 (.map (some m)) (.agg #[.int .i64 p.f0, .int .i64 p.f1]) false).run Tryz.prog w = .ok (vg p) w := by
  have := MapF.look KL h.mp Tryz.underlying67 (z := .slice none 0 0) (Tryz.zeroValue70 w) hp
  unfold lv at this
  cases hh : hasPl S p with
  | true => rw [hh] at this; simpa using this
  | false => rw [hh] at this; rw [h.nil p hh]; simpa using this
/-- Any other block, grown. -/
theorem NS.farS (h : NS B m bo w1 w nn S done vg vp vs pp sp) {g t : Nat} {cs : Array Value} {fr : Nat × Nat} (hb : w.heap[g]? = some (.cells cs t fr)) (h1 : (46 : Nat) ≠ t) (h2 : g ≠ bo) {w2 : World} (hg : w.grownBy w2 vs.ownBlock) (v1 : Value) (i : Nat) : (w2.setCell ⟨bo, i, none⟩ v1).heap[g]? = w.heap[g]? :=
  (Below.heap_setCell _ _ _ _ h2).trans (hg.block g (lt_of hb) (fun e => own_ne_blk h.rs hb h1 g e rfl))
theorem NS.farM (h : NS B m bo w1 w nn S done vg vp vs pp sp) {g t : Nat} {cs : Array Value} {fr : Nat × Nat} (hb : w.heap[g]? = some (.cells cs t fr)) {w2 : World} (hg : w.grownBy w2 (some m)) : w2.heap[g]? = w.heap[g]? :=
  hg.block g (lt_of hb) (fun e => by obtain ⟨es, c, hm⟩ := h.mp.blk; have e1 := Option.some.inj e; subst e1; rw [hm] at hb; cases hb)
end
theorem OwnG.same {α : Type} {enc : α → List Value} {C K base : Nat} {w w' : World} {v : Value} {xs : List α} (h : OwnG enc C K w base v xs) (hb : ∀ g cur, v.ownBlock = some g → w.heap[g]? = some (.cells cur K (0, 0)) → w'.heap[g]? = w.heap[g]?) : OwnG enc C K w' base v xs := by
  rcases h with h | ⟨g, cap, cur, rfl, h1, h2, h3, h4, h5, h6⟩
  · exact .inl h
  · have := hb g cur rfl h2
    exact .inr ⟨g, cap, cur, rfl, h1, this.trans h2, h3, h4, h5, h6.same this⟩
theorem OwnG.own_lt {α : Type} {enc : α → List Value} {C K base : Nat} {w : World} {v : Value} {xs : List α} (h : OwnG enc C K w base v xs) {k : Nat} (hk : v.ownBlock = some k) : k < w.heap.size ∧ base ≤ k := by
  rcases h with ⟨rfl, _⟩ | ⟨g, cap, cur, rfl, h1, h2, _⟩
  · simp [Value.ownBlock] at hk
  · have : g = k := by simpa [Value.ownBlock] using hk
    subst this
    exact ⟨lt_of h2, h1⟩
theorem at_L {w : World} {b : Nat} {A : Option Addr} {n c : Nat} {xs : List SPl} (h : OwnG encL 2 69 w b (.slice A n c) xs) (k : Nat) (hk : k < xs.length) : ∃ (ad : Addr) (p : SPl), A = some ad ∧ xs[k]? = some p ∧ w.cell? (ad.add (k * 2)) = some (.int .i64 p.f0) ∧ w.cell? ⟨(ad.add (k * 2)).block, (ad.add (k * 2)).off + 1, none⟩ = some (.int .i64 p.f1) := by
  rcases h with ⟨h1, rfl⟩ | ⟨g, cap, cur, e, h1, h2, h3, h4, h5, h6⟩
  · simp at hk
  · cases e
    have hx := List.getElem?_eq_getElem hk
    have e0 := (h6 k _ hx 0 _ rfl).1
    have e1 := (h6 k _ hx 1 _ rfl).1
    refine ⟨_, xs[k], rfl, hx, ?_, ?_⟩
    · rw [add_plain]; exact e0
    · rw [add_plain]; exact e1
theorem rd44 {L : List S44} {i : Nat} {x : S44} (h : L[i]? = some x) : rd_T44 L (i : Int) = x := by unfold rd_T44; simp [List.getD, h]
theorem take_notMem {l : List SPl} (hs : l.Pairwise ltL) {k : Nat} {p : SPl} (hp : l[k]? = some p) : p ∉ l.take k := by
  intro hm
  obtain ⟨j, hj, rfl⟩ := List.mem_take_iff_getElem.1 hm
  have hk := (List.getElem?_eq_some_iff.1 hp).1
  have h2 := (List.getElem?_eq_some_iff.1 hp).2
  have := List.pairwise_iff_getElem.1 hs j k (by omega) hk (by omega)
  rw [h2] at this
  exact ltL_irrefl _ this
theorem rowNow_all {S : List S46} {r : List SPl} (hm : ∀ p, p ∈ r ↔ hasPl S p = true) (p : SPl) : rowNow S r p = unionR (rangesAt S p) := by
  unfold rowNow
  by_cases h : p ∈ r
  · rw [if_pos h]
  · rw [if_neg h, rangesAt_none (by rw [← Bool.not_eq_true]; exact fun e => h ((hm p).2 e))]
    rfl
end Go.Proofs.YtldlenjfpjihdaaGreat.PS
end
section
namespace Go.Proofs.YtldlenjfpjihdaaGreat.PS
open Go Go.RowKit Go.Proofs Go.Maps Go.WideMaps Go.Proofs.YtldlenjfpjihdaaGreatW.PrintWords Go.Proofs.YtldlenjfpjihdaaGreatW.PrintLast Go.Proofs.YtldlenjfpjihdaaGreatW.PrintMore
set_option linter.unusedVariables false
open Go.Proofs.YtldlenjfpjihdaaGreat.PU (unionR stepU sortR neR sortR_perm)
theorem stepU_len (out : List S44) (r : S44) : (stepU out r).length ≤ out.length + 1 := by
  unfold stepU
  dsimp only
  split
  · simp
  · rename_i l hl
    have hne : out ≠ [] := by intro e; subst e; simp at hl
    have := List.length_pos_iff.2 hne
    repeat' split
    all_goals (try simp only [List.length_append, List.length_dropLast, List.length_cons, List.length_nil])
    all_goals omega
theorem foldU_len : ∀ (l out : List S44), (l.foldl stepU out).length ≤ out.length + l.length
  | [], out => by simp
  | x :: r, out => by
    have h1 := foldU_len r (stepU out x)
    have h2 := stepU_len out x
    rw [List.foldl_cons, List.length_cons]
    omega
theorem unionR_len (l : List S44) : (unionR l).length ≤ l.length := by
  have h1 := foldU_len (sortR (neR l)) []
  have h2 := (sortR_perm (neR l)).length_eq
  have h3 : (neR l).length ≤ l.length := List.length_filter_le _ _
  unfold unionR
  simp only [List.length_nil] at h1
  omega
theorem flat_len {α β : Type} (F : α → List β) (N : Nat) : ∀ (l : List α), (∀ x, (F x).length ≤ N) → (l.flatMap F).length ≤ l.length * N
  | [], _ => by simp
  | x :: r, h => by
    have h1 := flat_len F N r h
    have h2 := h x
    rw [List.flatMap_cons, List.length_append, List.length_cons, Nat.succ_mul]
    omega
/-- All spans of the normal foot. -/
theorem spans_len (S : List S46) (hS : S.length ≤ 65536) (r : List SPl) (hr : r.length ≤ 65536) : (r.flatMap (fun p => (unionR (rangesAt S p)).map (fun x => (⟨p.f0, p.f1, x⟩ : S46)))).length ≤ 4294967296 := by
  have := flat_len (fun p : SPl => (unionR (rangesAt S p)).map (fun x => (⟨p.f0, p.f1, x⟩ : S46))) 65536 r (fun p => by
    have h1 := unionR_len (rangesAt S p)
    have h2 := rangesAt_len S p
    rw [List.length_map]; omega)
  omega
theorem OwnG.setc {α : Type} {enc : α → List Value} {C K base b t : Nat} {w : World} {v : Value} {xs : List α} {cs : Array Value} {fr : Nat × Nat} (h : OwnG enc C K w base v xs) (hb : w.heap[b]? = some (.cells cs t fr)) (ht : K ≠ t) (i : Nat) (u : Value) : OwnG enc C K (w.setCell ⟨b, i, none⟩ u) base v xs :=
  h.same (fun g cur h1 h2 => Below.heap_setCell _ _ _ _ (fun e => by subst e; rw [h2] at hb; injection hb with hb; injection hb with _ hb; exact ht hb))
theorem setc_typed {b t : Nat} {w : World} {cs : Array Value} (hb : w.heap[b]? = some (.cells cs t (0, 0))) (c i : Nat) (u : Value) : ∃ cs', (w.setCell ⟨c, i, none⟩ u).heap[b]? = some (.cells cs' t (0, 0)) := by
  by_cases e : b = c
  · subst e
    exact ⟨_, setCell_heap hb u⟩
  · exact ⟨cs, (Below.heap_setCell _ _ _ _ e).trans hb⟩
theorem own_ne_lt {w : World} {b : Nat} {v v' : Value} {xs ys : List S37} (h : OwnG enc37 3 37 w b v xs) {w' : World} {n' : Nat} (h' : OwnG enc37 3 37 w' n' v' ys) (hn : w.heap.size ≤ n') : ∀ k, v.ownBlock = some k → v'.ownBlock ≠ some k := fun k h1 h2 => by
  have := (h.own_lt h1).1
  have := (h'.own_lt h2).2
  omega
end Go.Proofs.YtldlenjfpjihdaaGreat.PS
end
section
namespace Go.Proofs.YtldlenjfpjihdaaGreat.PS
open Go Go.RowKit Go.Proofs Go.Maps Go.WideMaps Go.Proofs.YtldlenjfpjihdaaGreatW.PrintWords Go.Proofs.YtldlenjfpjihdaaGreatW.PrintLast Go.Proofs.YtldlenjfpjihdaaGreatW.PrintMore
set_option linter.unusedVariables false
set_option linter.unusedSimpArgs false
open Go.Proofs.YtldlenjfpjihdaaGreat.PU (unionR)
def T20_13 : Bool × List (List Nat × List Nat) := (true, [([], []), ([], []), ([], []), ([], []), ([2, 3], [2, 3]), ([4], [4]), ([0, 1, 5, 5, 0, 1, 2, 3, 4, 5], [0, 1, 5])])
theorem tab20_13 : rtab .any (opsOf Tryz.f20 13) = T20_13 := by kernel_rfl
def ftO (A0 A1 A2 : Option Addr) (c0 c1 c2 : Nat) (f : Ft) : Obj := .cells #[.slice A0 f.ps.length c0, .slice A1 f.ss.length c1, .slice A2 f.ws.length c2] 25
def zFt : Obj := .cells #[.slice none 0 0, .slice none 0 0, .slice none 0 0] 25
set_option maxHeartbeats 16000000 in
set_option maxRecDepth 100000 in
theorem norm_any (f : Ft) (A0 A1 A2 : Option Addr) (c0 c1 c2 : Nat) (w : World) (hf : FtR w A0 A1 A2 c0 c1 c2 f) (hw : f.wf) (hws : ∀ s ∈ f.ss, wfL (plS s)) (hn : f.ps.length + f.ss.length + f.ws.length ≤ 65536) :
    Calls Tryz.prog 20 #[.agg #[.slice A0 f.ps.length c0, .slice A1 f.ss.length c1, .slice A2 f.ws.length c2]] w fun e w' => ∃ (g : Ft) (pl : List SPl) (v v0 v1 v2 : Value), e = .returned v ∧ NormOf f g pl ∧ FtO w' w.heap.size v g v0 v1 v2 ∧ Below w.heap.size w w' := by
  generalize hW : ((w.alloc (ftO A0 A1 A2 c0 c1 c2 f)).alloc zFt).alloc (.map #[] 0) = w1
  have hB1 : Below w.heap.size w w1 := by rw [← hW]; exact below_alloc (below_alloc (below_alloc (Below.refl _ _) _) _) _
  have b0 : w1.heap[w.heap.size]? = some (ftO A0 A1 A2 c0 c1 c2 f) := by rw [← hW]; exact heap_old (heap_old (heap_new _ _))
  have b1 : w1.heap[w.heap.size + 1]? = some zFt := by rw [← hW]; have := heap_new (w.alloc (ftO A0 A1 A2 c0 c1 c2 f)) zFt; rw [size_new] at this; exact heap_old this
  have hG1 : GM (w.heap.size + 1 + 1) (w.heap.size + 1 + 1) w1 0 [] (fun _ => .slice none 0 0) := by
    rw [← hW]
    have := GM.new ((w.alloc (ftO A0 A1 A2 c0 c1 c2 f)).alloc zFt) (w.heap.size + 1 + 1)
    rwa [size_new, size_new] at this
  have hz1 : w1.heap.size = w.heap.size + 1 + 1 + 1 := by rw [← hW, size_new, size_new, size_new]
  have hmm := @run_makeMap Tryz.prog
  have HF := Aside0.mk hf
  have HWf := Aside0.mk hw
  have HWs := Aside0.mk hws
  have HB1 := Aside0.mk hB1
  have HZ1 := Aside0.mk hz1
  have D0 := Aside0.mk b0
  have D1 := Aside0.mk b1
  have HG1 := Aside0.mk hG1
  unfold ftO zFt at hW
  have HW := Aside0.mk hW
  clear hW hB1 b0 b1 hG1 hf hw hws hz1
  go_enter Tryz.func20, Tryz.ntmps20
  go_wp2_with fail
  rw [HW.out]
  clear HW
  have m1 : w1.cell? ⟨w.heap.size, 1, none⟩ = some (.slice A1 f.ss.length c1) := cell_of D0.out 1
  go_wp2
  clear m1
  go_loopg [19] f.ss.length (fun gg s19 wr => ∃ (k : Nat) (vf : SPl → Value), s19 = .int .i64 k ∧ k ≤ f.ss.length ∧ Aside0 (f.ss.length - k ≤ gg) ∧ Aside0 (GM (w.heap.size + 1 + 1) (w.heap.size + 1 + 1) wr k (f.ss.take k) vf) ∧ Aside0 (Below (w.heap.size + 1 + 1) w1 wr))
  case atStart => exact ⟨0, _, rfl, Nat.zero_le _, ⟨Nat.le_refl _⟩, ⟨HG1.out⟩, ⟨Below.refl _ _⟩⟩
  case round =>
    clear HG1
    obtain ⟨k, vf, rfl, hk, HM, HG, HB⟩ := hrel
    have HBw := Aside0.mk (Below.trans HB1.out (HB.out.mono (by omega)) : Below w.heap.size w wr)
    by_cases hlt : k < f.ss.length
    · have hltz : (k : Int) < (f.ss.length : Int) := by omega
      obtain ⟨ad, ea, a0, a1, a2, a3, a4⟩ := at_T46 HF.out.h1 (k : Int) (by omega) hltz
      subst ea
      obtain ⟨y, hy⟩ := ex_get hlt
      rw [rd46 hy] at a0 a1 a2 a3 a4
      simp only [Int.toNat_natCast] at a0 a1 a2 a3 a4
      replace a0 := (HBw.out.cell (World.block_lt_of_cell? _ _ a0)).trans a0
      replace a1 := (HBw.out.cell (World.block_lt_of_cell? _ _ a1)).trans a1
      replace a2 := (HBw.out.cell (World.block_lt_of_cell? _ _ a2)).trans a2
      replace a3 := (HBw.out.cell (World.block_lt_of_cell? _ _ a3)).trans a3
      replace a4 := (HBw.out.cell (World.block_lt_of_cell? _ _ a4)).trans a4
      generalize hW3 : ((wr.alloc (.cells #[.int .i64 y.f0, .int .i64 y.f1, .string y.f2.f0, .string y.f2.f1, .bool y.f2.f2] 46)).alloc (.cells #[.int .i64 y.f0, .int .i64 y.f1] 69)).alloc (.cells #[.string y.f2.f0, .string y.f2.f1, .bool y.f2.f2] 44) = W3
      have hB3 : Below wr.heap.size wr W3 := by rw [← hW3]; exact below_alloc (below_alloc (below_alloc (Below.refl _ _) _) _) _
      have hx3 : W3.heap[wr.heap.size + 1 + 1]? = some (.cells #[.string y.f2.f0, .string y.f2.f1, .bool y.f2.f2] 44 (0, 0)) := by
        rw [← hW3]
        have := heap_new ((wr.alloc (.cells #[.int .i64 y.f0, .int .i64 y.f1, .string y.f2.f0, .string y.f2.f1, .bool y.f2.f2] 46)).alloc (.cells #[.int .i64 y.f0, .int .i64 y.f1] 69)) (.cells #[.string y.f2.f0, .string y.f2.f1, .bool y.f2.f2] 44)
        rwa [size_new, size_new] at this
      have hmlt := HG.out.mp.lt
      have hyw := HWs.out y (List.mem_of_getElem? hy)
      obtain ⟨st, wE, hrun, hgE, hzE, hRE, hstep⟩ := (HG.out.below hB3).step (by unfold maxLen; omega) hyw
      have hxE : wE.heap[wr.heap.size + 1 + 1]? = some (.cells #[.string y.f2.f0, .string y.f2.f1, .bool y.f2.f2] 44 (0, 0)) := (hgE.block _ (lt_of hx3) (fun e => by have := Option.some.inj e; omega)).trans hx3
      have hBE : Below (w.heap.size + 1 + 1) w1 wE := by
        have h1 := Below.trans HB.out (hB3.mono (by omega))
        exact h1.grown hgE (by have := hB3.size; omega) (fun k e => by cases e; exact Nat.le_refl _)
      have hlE := rangesAt_len (f.ss.take k) (plS y)
      have hlk : (f.ss.take k).length ≤ k := List.length_take_le _ _
      have hbE : w.heap.size + 1 + 1 ≤ wE.heap.size := by have := hBE.size; have := HZ1.out; omega
      rw [← take_snoc hy] at hstep
      have hrun' : (Instr.mapEntry 67 (.map (some (w.heap.size + 1 + 1))) (.agg #[.int .i64 y.f0, .int .i64 y.f1])).run Tryz.prog (((wr.alloc (.cells #[.int .i64 y.f0, .int .i64 y.f1, .string y.f2.f0, .string y.f2.f1, .bool y.f2.f2] 46)).alloc (.cells #[.int .i64 y.f0, .int .i64 y.f1] 69)).alloc (.cells #[.string y.f2.f0, .string y.f2.f1, .bool y.f2.f2] 44)) = .ok (.tuple #[vf (plS y), .int .i64 st]) wE := by rw [hW3]; exact hrun
      have HStep := Aside0.mk hstep
      have HRE := Aside0.mk hRE
      have HXE := Aside0.mk hxE
      have HBE := Aside0.mk hBE
      have HbE := Aside0.mk hbE
      have hll : ((rangesAt (f.ss.take k) (plS y)).length + 1) * 40 ≤ 140737488355328 := by omega
      have HLL := Aside0.mk hll
      have HHy := Aside0.mk hy
      clear hW3 hB3 hx3 hstep hRE hxE hBE hbE hlE hlk hll hrun hy hyw hgE hzE
      generalize hpv : vf (plS y) = pvv at *
      have HPV := Aside0.mk hpv
      clear hpv
      go_wp2_with ((with_reducible refine gate_builtin (b := .append) (xs := #[.tmp 30, .tmp 33]) rfl ?_); at_builtin; (refine app44 wE rfl (.tmp 30) (.tmp 33) rfl (w.heap.size + 1 + 1) pvv (rangesAt (f.ss.take k) (plS y)) y.f2 rfl (wr.heap.size + 1 + 1) rfl HXE.out HRE.out HbE.out HLL.out ?_); intro v' w2 hv' hg2 hat2; obtain ⟨w3, hst, hG3, hg3, hz3⟩ := HStep.out v' w2 hv' hg2 hat2; have HG3 := Aside0.mk hG3; have HB3 := Aside0.mk ((HBE.out.grown hg2 HbE.out (fun k e => Kd.R_base HRE.out k e)).grown hg3 (Nat.le_trans HbE.out hg2.size) (fun k e => by cases e; exact Nat.le_refl _)); clear hv' hg2 hat2 hG3 hg3 hz3)
      go_roundg (f.ss.length - (k + 1))
      case measure => have := HM.out; omega
      case rel => exact ⟨k + 1, _, by go_num, hlt, ⟨Nat.le_refl _⟩, ⟨HG3.out⟩, ⟨HB3.out⟩⟩
    · obtain ⟨wq, hwq⟩ : ∃ x, x = wr := ⟨_, rfl⟩
      subst hwq
      obtain rfl : k = f.ss.length := by omega
      have hltz : ¬ (f.ss.length : Int) < (f.ss.length : Int) := by omega
      have hG := HG.out
      rw [List.take_length] at hG
      generalize hWa : wq.alloc (.cells #[.slice none 0 0, .slice none 0 0, .slice none 0 0] 25) = wa
      have hNS := NS.new hG HB.out (Nat.le_refl _) (by have := HZ1.out; omega)
      rw [hWa] at hNS
      obtain ⟨D, ho, hh⟩ := hNS.mp
      have hmem : ∀ p, p ∈ f.ss.map plS ↔ hasPl f.ss p = true := fun p => by
        unfold hasPl
        rw [List.mem_map, List.any_eq_true]
        exact ⟨fun ⟨s, h1, h2⟩ => ⟨s, h1, (atP_iff s p).2 h2⟩, fun ⟨s, h1, h2⟩ => ⟨s, h1, (atP_iff s p).1 h2⟩⟩
      have hS := PLsorted (w.heap.size + 1 + 1) f.ss.length D (f.ss.map plS) wa ho (fun x hx => by
        rw [(hh x hx).1, hmem]
        dsimp only
        cases hasPl f.ss x with
        | true => exact ⟨fun _ => rfl, fun _ => rfl⟩
        | false => exact ⟨fun h => (by cases h), fun h => (by cases h)⟩) (fun x hx => by
        obtain ⟨s, h1, rfl⟩ := List.mem_map.1 hx
        exact HWs.out s h1) (by omega)
      have HS := Aside0.mk hS
      have HNS := Aside0.mk hNS
      have HMem := Aside0.mk hmem
      have HWa := Aside0.mk hWa
      clear ho hh hS hNS hmem hG HG hWa
      go_wp2_with fail
      rw [HWa.out]
      clear HWa
      refine (PLkeys (some (w.heap.size + 1 + 1)) wa).mono ?_
      rintro e w4 ⟨rfl, rfl⟩
      --@A
      go_wp2_with (go_at_call 46; refine HS.out.mono ?_; rintro e w5 ⟨v, r, rfl, h1, h2, h3, h4, h5⟩; have H4 := Aside0.mk (OwnG_lower h4 (Nat.le_trans HNS.out.le HNS.out.low.size) : OwnG encL 2 69 w5 (w.heap.size + 1 + 1) v r); obtain ⟨Ap, cp, rfl, hcp, -⟩ := h4.read; have H1 := Aside0.mk h1; have H2 := Aside0.mk (fun p => (h2 p).trans (HMem.out p)); have H3 := Aside0.mk h3; have HNS5 := Aside0.mk (HNS.out.below h5); clear h1 h2 h3 h4 h5 HS HNS)
      have hrl : r.length ≤ 65536 := by have := H3.out; omega
      --@B
      go_loopg [43] r.length (fun gg s43 w6 => ∃ (k : Nat) (vg : SPl → Value) (vs : Value) (sp : List S46), s43 = .int .i64 k ∧ k ≤ r.length ∧ Aside0 (r.length - k ≤ gg) ∧ Aside0 (NS (w.heap.size + 1 + 1) (w.heap.size + 1 + 1) wq.heap.size w1 w6 (f.ss.length + k) f.ss (r.take k) vg (.slice none 0 0) vs [] sp) ∧ Aside0 (sp = (r.take k).flatMap (fun p => (unionR (rangesAt f.ss p)).map (fun x => ⟨p.f0, p.f1, x⟩))) ∧ Aside0 (OwnG encL 2 69 w6 (w.heap.size + 1 + 1) (.slice Ap r.length cp) r))
      case atStart => exact ⟨0, _, _, _, rfl, Nat.zero_le _, ⟨Nat.le_refl _⟩, ⟨HNS5.out⟩, ⟨rfl⟩, ⟨H4.out⟩⟩
      case round =>
        clear H4 HNS5
        obtain ⟨w6, hwq⟩ : ∃ x, x = wr := ⟨_, rfl⟩
        subst hwq
        obtain ⟨k, vg, vs, sp, rfl, hk, HM6, HN6, HSp, HO6⟩ := hrel
        by_cases hlt2 : k < r.length
        · have hltz2 : (k : Int) < (r.length : Int) := by omega
          obtain ⟨ad, y, ea, hy, a0, a1⟩ := at_L HO6.out k hlt2
          subst ea
          have hyk : (y ∈ r) := List.mem_of_getElem? hy
          have hhy : hasPl f.ss y = true := (H2.out y).1 hyk
          have hyw : wfL y := by
            obtain ⟨s, h1, h2⟩ := List.any_eq_true.1 hhy
            rw [← (atP_iff s y).1 h2]
            exact HWs.out s h1
          have hyd : y ∉ r.take k := take_notMem H1.out hy
          have HHy := Aside0.mk hhy
          have HYw := Aside0.mk hyw
          have HYd := Aside0.mk hyd
          have HYy := Aside0.mk hy
          generalize hW2 : w6.alloc (.cells #[.int .i64 y.f0, .int .i64 y.f1] 69) = W2
          have hB2 : Below w6.heap.size w6 W2 := by rw [← hW2]; exact below_alloc (Below.refl _ _) _
          have b2 : W2.heap[w6.heap.size]? = some (.cells #[.int .i64 y.f0, .int .i64 y.f1] 69 (0, 0)) := by rw [← hW2]; exact heap_new _ _
          have hO2 : OwnG encL 2 69 W2 (w.heap.size + 1 + 1) (.slice (some ad) r.length cp) r := HO6.out.below hB2
          have HN2 := Aside0.mk (HN6.out.below hB2)
          have HO2 := Aside0.mk hO2
          have HB2 := Aside0.mk hB2
          have HX2 := Aside0.mk b2
          have HW2 := Aside0.mk hW2
          clear hW2 hB2 b2 hO2 hyk hhy hyw hyd hy HO6
          --@C
          go_wp2_with fail
          --@D
          rw [HW2.out]
          clear HW2
          have hrow := HN2.out.row y
          rw [show rowNow f.ss (r.take k) y = rangesAt f.ss y from if_neg HYd.out] at hrow
          obtain ⟨Ag, cg, hvg⟩ := Kd.R_slice hrow
          rw [hvg] at hrow
          have hlk := HN2.out.look HYw.out
          rw [hvg] at hlk
          have HRow := Aside0.mk (Kd.R_reads' hrow)
          have c0_ : W2.cell? ⟨w6.heap.size, 0, none⟩ = some (.int .i64 y.f0) := cell_of HX2.out 0
          have c1_ : W2.cell? ⟨w6.heap.size, 1, none⟩ = some (.int .i64 y.f1) := cell_of HX2.out 1
          have hcel : ∀ W', Below W2.heap.size W2 W' → (W'.cell? ⟨w6.heap.size, 0, none⟩ = some (.int .i64 y.f0) ∧ W'.cell? ⟨w6.heap.size, 1, none⟩ = some (.int .i64 y.f1) ∧ (Instr.lookup 67 (.map (some (w.heap.size + 1 + 1))) (.agg #[.int .i64 y.f0, .int .i64 y.f1]) false).run Tryz.prog W' = .ok (.slice Ag (rangesAt f.ss y).length cg) W') := fun W' hW' => by
            have hl := (HN2.out.below hW').look HYw.out
            rw [hvg] at hl
            exact ⟨(hW'.cell (World.block_lt_of_cell? _ _ c0_)).trans c0_, (hW'.cell (World.block_lt_of_cell? _ _ c1_)).trans c1_, hl⟩
          have HCel := Aside0.mk hcel
          clear hcel hlk hrow
          --@E
          refine start_ (n := 7) (S := fun w' => w'.cell? ⟨w6.heap.size, 0, none⟩ = some (.int .i64 y.f0) ∧ w'.cell? ⟨w6.heap.size, 1, none⟩ = some (.int .i64 y.f1) ∧ (Instr.lookup 67 (.map (some (w.heap.size + 1 + 1))) (.agg #[.int .i64 y.f0, .int .i64 y.f1]) false).run Tryz.prog w' = .ok (.slice Ag (rangesAt f.ss y).length cg) w') (ds := [6]) #[false, false, false, false, false, false, false] (by kernel_rfl) rfl rfl (HCel.out _ (below_drew1 (Below.refl _ _))) (fun hHeld => ?_); refine with_tab tab20_13 (fun HT_ => ?_)
          have HBA := Aside0.mk (below_drew1 (Below.refl W2.heap.size W2))
          generalize W2.drew = wA at HBA hHeld ⊢
          clear c0_ c1_
          refine pure_ (i := 0) (N := some 47) (v := ?_) (a' := ?_) #[true, false, false, false, false, false, false] rfl rfl (any_of HT_.out (by kernel_rfl)) (fun _ _ _ h => h) (Or.inl ⟨by rfl, ?_⟩) ?_ ?_
          rotate_left
          · intro w'
            go_simp
            with_reducible rfl
          rotate_left
          · simp only [Act.put, List.setIfInBounds_toArray, List.set_cons_zero, List.set_cons_succ, i64_w, i32_w]
            rfl
          refine pure_ (i := 2) (N := some 49) (v := ?_) (a' := ?_) #[true, false, true, false, false, false, false] rfl rfl (any_of HT_.out (by kernel_rfl)) (fun _ _ _ h => h) (Or.inl ⟨by rfl, ?_⟩) ?_ ?_
          rotate_left
          · intro w'
            go_simp
            with_reducible rfl
          rotate_left
          · simp only [Act.put, List.setIfInBounds_toArray, List.set_cons_zero, List.set_cons_succ, i64_w, i32_w]
            rfl
          refine take_ (i := 1) (N := some 48) (v := ?_) (a' := ?_) #[true, true, true, false, false, false, false] rfl rfl (take_of HT_.out (by kernel_rfl)) (fun _ _ _ h => h) (Or.inl ⟨by rfl, ?_⟩) hHeld ?_ ?_
          rotate_left
          · rintro w' ⟨s0, s1, s2⟩
            go_simp
            with_reducible rfl
          rotate_left
          · simp only [Act.put, List.setIfInBounds_toArray, List.set_cons_zero, List.set_cons_succ, i64_w, i32_w]
            rfl
          refine take_ (i := 3) (N := some 50) (v := ?_) (a' := ?_) #[true, true, true, true, false, false, false] rfl rfl (take_of HT_.out (by kernel_rfl)) (fun _ _ _ h => h) (Or.inl ⟨by rfl, ?_⟩) hHeld ?_ ?_
          rotate_left
          · rintro w' ⟨s0, s1, s2⟩
            go_simp
            with_reducible rfl
          rotate_left
          · simp only [Act.put, List.setIfInBounds_toArray, List.set_cons_zero, List.set_cons_succ, i64_w, i32_w]
            rfl
          refine take_ (i := 4) (N := some 51) (v := ?_) (a' := ?_) #[true, true, true, true, true, false, false] rfl rfl (take_of HT_.out (by kernel_rfl)) (fun _ _ _ h => h) (Or.inl ⟨by rfl, ?_⟩) hHeld ?_ ?_
          rotate_left
          · rintro w' ⟨s0, s1, s2⟩
            go_simp
            with_reducible rfl
          rotate_left
          · simp only [Act.put, List.setIfInBounds_toArray, List.set_cons_zero, List.set_cons_succ, i64_w, i32_w]
            rfl
          --@F
          refine one_ (i := 5) (N := some 52) #[true, true, true, true, true, true, false] rfl rfl (one_of HT_.out (by kernel_rfl)) (by decide) (fun K hK => ?_)
          refine goes_ Tryz.func51 (by kernel_rfl) rfl #[.slice Ag (rangesAt f.ss y).length cg] (by rfl) rfl rfl (by (try simp only [List.map_toArray, List.map_cons, List.map_nil]); first | done | rfl) ?_
          refine (PA.code_Union.calls Ag cg (rangesAt f.ss y) (unionR (rangesAt f.ss y)) wA (Kd.C_below HRow.out.2.2 HBA.out) HRow.out.2.1 (by unfold PA.code_Union.f; rw [if_pos (by have := rangesAt_len f.ss y; omega)])).mono ?_
          rintro e wC ⟨u, rfl, hu, hb⟩
          refine ⟨_, rfl, ?_⟩
          have HBC := Aside0.mk (Below.trans HBA.out (hb.mono HBA.out.size))
          have hlow : (w.heap.size + 1 + 1) ≤ wA.heap.size := by have h1 := HN2.out.le; have h2 := HN2.out.low.size; have h3 := HBA.out.size; omega
          have hu' : Kd.R k44 44 wC (w.heap.size + 1 + 1) (fun _ => True) u (unionR (rangesAt f.ss y)) := Kd.R_lower hu hlow
          obtain ⟨w8, hrun, hN8, hg8⟩ := (HN2.out.below HBC.out).union (by have := H3.out; unfold maxLen; omega) HYw.out HHy.out HYd.out hu'
          obtain ⟨Au, cu, hvu⟩ := Kd.R_slice hu'
          subst hvu
          have HRu := Aside0.mk (Kd.R_reads' hu')
          have HN8 := Aside0.mk hN8
          have hX8 := ((HN2.out.below HBC.out).farM ((HBC.out.block _ (lt_of HX2.out)).trans HX2.out) hg8).trans ((HBC.out.block _ (lt_of HX2.out)).trans HX2.out)
          have HX8 := Aside0.mk hX8
          have hO8 : OwnG encL 2 69 w8 (w.heap.size + 1 + 1) (.slice (some ad) r.length cp) r := (HO2.out.below HBC.out).same (fun g cur h1 h2 => (HN2.out.below HBC.out).farM h2 hg8)
          have HO8 := Aside0.mk hO8
          have HRun := Aside0.mk hrun
          clear hb hu hu' hlow hN8 hg8 hX8 hO8 hrun
          refine hK.out _ _ (HCel.out _ HBC.out) (fun hHeld => ?_)
          clear hK K
          refine norm_ (a' := ?_) ?_ ?_
          rotate_left
          · show Act.put _ (some 52) _ = _
            simp only [Act.put, List.setIfInBounds_toArray, List.set_cons_zero, List.set_cons_succ, i64_w, i32_w]
            rfl
          --@G
          have hrun := HRun.out
          unfold lv at hrun
          refine last_ (i := 6) (N := none) #[true, true, true, true, true, true, true] rfl rfl (one_of HT_.out (by kernel_rfl)) (by decide) (fun K hK => ?_)
          refine skip_ (w1 := ?_) (by rfl) rfl ?_ ?_
          rotate_left
          · go_simp
            rfl
          refine hK.out _ _ ?_
          refine done_ (done_of HT_.out (by kernel_rfl)) ?_
          have hlk8 := HN8.out.look HYw.out
          rw [show upd vg y _ y = _ from if_pos rfl] at hlk8
          have d0 : w8.cell? ⟨w6.heap.size, 0, none⟩ = some (.int .i64 y.f0) := cell_of HX8.out 0
          have d1 : w8.cell? ⟨w6.heap.size, 1, none⟩ = some (.int .i64 y.f1) := cell_of HX8.out 1
          have HLt := Aside0.mk HN6.out.lt.2
          have hul : (unionR (rangesAt f.ss y)).length ≤ 65536 := by have h1 := unionR_len (rangesAt f.ss y); have h2 := rangesAt_len f.ss y; omega
          clear hHeld HT_ hrun HRun HN6 HN2 HX2 HO2 HRow HCel HBA HBC
          --@H
          go_wp2
          clear hlk8 d0 d1
          --@I
          go_loopg [57] (unionR (rangesAt f.ss y)).length (fun gg s57 w9 => ∃ (k2 : Nat) (vs2 : Value), s57 = .int .i64 k2 ∧ k2 ≤ (unionR (rangesAt f.ss y)).length ∧ Aside0 ((unionR (rangesAt f.ss y)).length - k2 ≤ gg) ∧ Aside0 (NS (w.heap.size + 1 + 1) (w.heap.size + 1 + 1) wq.heap.size w1 w9 (f.ss.length + k + 1) f.ss (r.take k ++ [y]) (upd vg y (.slice Au (unionR (rangesAt f.ss y)).length cu)) (.slice none 0 0) vs2 [] (sp ++ ((unionR (rangesAt f.ss y)).take k2).map (fun x => ⟨y.f0, y.f1, x⟩))) ∧ Aside0 (w9.heap[w6.heap.size]? = some (.cells #[.int .i64 y.f0, .int .i64 y.f1] 69 (0, 0))) ∧ Aside0 (OwnG encL 2 69 w9 (w.heap.size + 1 + 1) (.slice (some ad) r.length cp) r))
          case atStart => exact ⟨0, vs, rfl, Nat.zero_le _, ⟨Nat.le_refl _⟩, ⟨by rw [List.take_zero, List.map_nil, List.append_nil]; exact HN8.out⟩, ⟨HX8.out⟩, ⟨HO8.out⟩⟩
          case round =>
            clear HN8 HX8 HO8
            obtain ⟨w9, hwq⟩ : ∃ x, x = wr := ⟨_, rfl⟩
            subst hwq
            obtain ⟨k2, vs2, rfl, hk2, HM9, HN9, HX9, HO9⟩ := hrel
            by_cases hlt3 : k2 < (unionR (rangesAt f.ss y)).length
            · have hltz3 : (k2 : Int) < ((unionR (rangesAt f.ss y)).length : Int) := by omega
              have hrow9 := HN9.out.row y
              rw [show rowNow f.ss (r.take k ++ [y]) y = unionR (rangesAt f.ss y) from if_pos (by simp), show upd vg y _ y = _ from if_pos rfl] at hrow9
              obtain ⟨adr, ea, b0, b1, b2⟩ := at_T44 (Kd.R_reads' hrow9).2.2 (k2 : Int) (by omega) hltz3
              subst ea
              obtain ⟨z, hz⟩ := ex_get hlt3
              rw [rd44 hz] at b0 b1 b2
              simp only [Int.toNat_natCast] at b0 b1 b2
              have HZz := Aside0.mk hz
              have d0 : w9.cell? ⟨w6.heap.size, 0, none⟩ = some (.int .i64 y.f0) := cell_of HX9.out 0
              have d1 : w9.cell? ⟨w6.heap.size, 1, none⟩ = some (.int .i64 y.f1) := cell_of HX9.out 1
              have o1 : w9.cell? ⟨wq.heap.size, 1, none⟩ = some vs2 := cell_of HN9.out.out 1
              have hB11 : Below w9.heap.size w9 ((w9.alloc (.cells #[.string z.f0, .string z.f1, .bool z.f2] 44)).alloc (.cells #[.int .i64 y.f0, .int .i64 y.f1, .string z.f0, .string z.f1, .bool z.f2] 46)) := below_alloc (below_alloc (Below.refl _ _) _) _
              have hX11 := heap_new (w9.alloc (.cells #[.string z.f0, .string z.f1, .bool z.f2] 44)) (.cells #[.int .i64 y.f0, .int .i64 y.f1, .string z.f0, .string z.f1, .bool z.f2] 46)
              rw [size_new] at hX11
              have HN11 := Aside0.mk (HN9.out.below hB11)
              have HX11 := Aside0.mk hX11
              have HXb := Aside0.mk ((hB11.block _ (lt_of HX9.out)).trans HX9.out)
              have HO11 := Aside0.mk (HO9.out.below hB11)
              have hbs : (w.heap.size + 1 + 1) ≤ ((w9.alloc (.cells #[.string z.f0, .string z.f1, .bool z.f2] 44)).alloc (.cells #[.int .i64 y.f0, .int .i64 y.f1, .string z.f0, .string z.f1, .bool z.f2] 46)).heap.size := by have h1 := HN11.out.le; have h2 := HN11.out.low.size; omega
              have HBs := Aside0.mk hbs
              have hll : ((sp ++ ((unionR (rangesAt f.ss y)).take k2).map (fun x => (⟨y.f0, y.f1, x⟩ : S46))).length + 1) * 56 ≤ 140737488355328 := by
                have h1 := spans_len f.ss (by omega) (r.take k) (by rw [List.length_take]; omega)
                rw [← HSp.out] at h1
                have h2 := List.length_take_le k2 (unionR (rangesAt f.ss y))
                rw [List.length_append, List.length_map]
                omega
              have HLL := Aside0.mk hll
              have hlow6 : (w6.heap.size = wq.heap.size) = False := eq_false (by have := HLt.out; omega)
              have hlow7 := lt_of HX9.out
              have hlow8 := HN9.out.lt.2
              have hne1 : (wq.heap.size = w9.heap.size) = False := eq_false (by omega)
              have hne2 : (w6.heap.size = w9.heap.size) = False := eq_false (by omega)
              have hlow9 : wq.heap.size < w9.heap.size := hlow8
              clear hrow9 hB11 hX11 hbs hll hz hlow8
              --@J
              go_wp2_with ((with_reducible refine gate_builtin (b := .append) (xs := #[.tmp 62, .tmp 69]) rfl ?_); at_builtin; (refine app46 ((w9.alloc (.cells #[.string z.f0, .string z.f1, .bool z.f2] 44)).alloc (.cells #[.int .i64 y.f0, .int .i64 y.f1, .string z.f0, .string z.f1, .bool z.f2] 46)) rfl (.tmp 62) (.tmp 69) rfl (w.heap.size + 1 + 1) vs2 (sp ++ ((unionR (rangesAt f.ss y)).take k2).map (fun x => (⟨y.f0, y.f1, x⟩ : S46))) ⟨y.f0, y.f1, z⟩ rfl (w9.heap.size + 1) rfl HX11.out (R_loose46 HN11.out.rs) HBs.out HLL.out ?_); intro v' w12 hv' hg12 hat; obtain ⟨Av, nv, cv, rfl⟩ : ∃ A n c, v' = Value.slice A n c := (by obtain ⟨A, c, h⟩ := Kd.R_slice hv'; exact ⟨A, _, c, h⟩); have hb12 := HN11.out.outS hg12; have o1 : w12.cell? ⟨wq.heap.size, 1, none⟩ = some vs2 := cell_of hb12 1; have of1 : w12.frozen? ⟨wq.heap.size, 1, none⟩ = false := frozen_of hb12 1; have HN13 := Aside0.mk (HN11.out.span hv' hg12); have HX13 := Aside0.mk ((HN11.out.farS HXb.out (by decide) (by have := HLt.out; omega) hg12 (.slice Av nv cv) 1).trans HXb.out); have HO13 := Aside0.mk (HO11.out.same (w' := w12.setCell ⟨wq.heap.size, 1, none⟩ (.slice Av nv cv)) (fun g cur h1 h2 => HN11.out.farS h2 (by decide) (by intro e; subst e; have := HN11.out.out.symm.trans h2; injection this with this; injection this with _ ht; exact absurd ht (by decide)) hg12 (.slice Av nv cv) 1)); clear hv' hg12 hat hb12)
              --@K
              go_roundg ((unionR (rangesAt f.ss y)).length - (k2 + 1))
              case measure => have := HM9.out; omega
              case rel => exact ⟨k2 + 1, _, by go_num, hlt3, ⟨Nat.le_refl _⟩, ⟨by rw [take_snoc HZz.out, List.map_append, ← List.append_assoc]; exact HN13.out⟩, HX13, HO13⟩
            · obtain rfl : k2 = (unionR (rangesAt f.ss y)).length := by omega
              have hltz3 : ¬ ((unionR (rangesAt f.ss y)).length : Int) < ((unionR (rangesAt f.ss y)).length : Int) := by omega
              have hN := HN9.out
              rw [List.take_length, ← take_snoc HYy.out] at hN
              have HN10 := Aside0.mk hN
              clear hN
              --@L
              go_wp2
              go_roundg (r.length - (k + 1))
              case measure => have := HM6.out; omega
              case rel => exact ⟨k + 1, _, _, _, by go_num, hlt2, ⟨Nat.le_refl _⟩, ⟨HN10.out⟩, ⟨by rw [HSp.out, take_snoc HYy.out, List.flatMap_append, List.flatMap_cons, List.flatMap_nil, List.append_nil]⟩, HO9⟩
        · obtain rfl : k = r.length := by omega
          have hltz2 : ¬ (r.length : Int) < (r.length : Int) := by omega
          have hN := HN6.out
          rw [List.take_length] at hN
          have hsp := HSp.out
          rw [List.take_length] at hsp
          have hx0 := (hN.low.block w.heap.size (by omega)).trans D0.out
          have hB6 : Below w.heap.size w w6 := Below.trans HB1.out (hN.low.mono (by omega))
          have m0 : w6.cell? ⟨w.heap.size, 0, none⟩ = some (.slice A0 f.ps.length c0) := cell_of hx0 0
          have HOn := Aside0.mk (once_any f.ps A0 c0 w6 (Kd.C_below HF.out.h0 hB6) (by omega) HWf.out.1)
          have HNa := Aside0.mk hN
          have HSp2 := Aside0.mk hsp
          have HB6 := Aside0.mk hB6
          clear hN hsp hx0 hB6 HN6 HSp
          --@M
          go_wp2_with (go_at_call 52; refine HOn.out.mono ?_; rintro e w14 ⟨v, rr, rfl, hs, ho, hb⟩; obtain ⟨Ar, cr, rfl, hcr, -⟩ := ho.read; have HSr := Aside0.mk hs; have HOr := Aside0.mk ho; have HN14 := Aside0.mk (HNa.out.below hb); clear hs ho hb HOn HNa m0)
          have hrrl : rr.length ≤ 65536 := by have := HSr.out.2.2; omega
          --@N
          go_loopg [78] rr.length (fun gg s78 wb => ∃ (k : Nat) (vp : Value) (pp : List S37), s78 = .int .i64 k ∧ k ≤ rr.length ∧ Aside0 (rr.length - k ≤ gg) ∧ Aside0 (NS (w.heap.size + 1 + 1) (w.heap.size + 1 + 1) wq.heap.size w1 wb (f.ss.length + r.length) f.ss r vg vp vs pp sp) ∧ Aside0 (pp = (rr.take k).filter (fun x : S37 => !((unionR (rangesAt f.ss ⟨x.f0, x.f1⟩)).any (fun q => hasB q x.f2)))) ∧ Aside0 (OwnG enc37 3 37 wb w6.heap.size (.slice Ar rr.length cr) rr) ∧ Aside0 (∀ g, vp.ownBlock = some g → (Value.slice Ar rr.length cr).ownBlock ≠ some g))
          case atStart => exact ⟨0, _, _, rfl, Nat.zero_le _, ⟨Nat.le_refl _⟩, ⟨HN14.out⟩, ⟨rfl⟩, ⟨HOr.out⟩, ⟨fun g h => by simp [Value.ownBlock] at h⟩⟩
          case round =>
            clear HN14 HOr
            obtain ⟨w15, hwq⟩ : ∃ x, x = wr := ⟨_, rfl⟩
            subst hwq
            obtain ⟨k, vp, pp, rfl, hk3, HM15, HN15, HPp, HO15, HNe⟩ := hrel
            by_cases hlt4 : k < rr.length
            · have hltz4 : (k : Int) < (rr.length : Int) := by omega
              have hC : Kd.C k37 w15 Ar rr.length rr := by obtain ⟨A', c', e', -, h⟩ := HO15.out.C37; cases e'; exact h
              obtain ⟨ad2, ea, a0, a1, a2⟩ := at_T37 hC (k : Int) (by omega) hltz4
              subst ea
              obtain ⟨y, hy⟩ := ex_get hlt4
              rw [rd37 hy] at a0 a1 a2
              simp only [Int.toNat_natCast] at a0 a1 a2
              have HYy := Aside0.mk hy
              have hpl : pp.length ≤ 65536 := by
                have h1 := List.length_filter_le (fun x : S37 => !((unionR (rangesAt f.ss ⟨x.f0, x.f1⟩)).any (fun q => hasB q x.f2))) (rr.take k)
                have h2 := List.length_take_le k rr
                rw [HPp.out]; omega
              have HLL := Aside0.mk (show (pp.length + 1) * 32 ≤ 140737488355328 by omega)
              clear hpl
              have hyf : y ∈ f.ps := (HSr.out.2.1 y).1 (List.mem_of_getElem? hy)
              have hyp : wfP y := HWf.out.1 y hyf
              have hyw : wfL ⟨y.f0, y.f1⟩ := ⟨hyp.1, hyp.2.1⟩
              have hBx := below_alloc (Below.refl w15.heap.size w15) (.cells #[.int .i64 y.f0, .int .i64 y.f1, .string y.f2] 37)
              have hN16 := HN15.out.below hBx
              have hlk := hN16.look hyw
              have hrow := hN16.row ⟨y.f0, y.f1⟩
              rw [rowNow_all H2.out] at hrow
              obtain ⟨Ag, cg, hvg⟩ := Kd.R_slice hrow
              rw [hvg] at hlk hrow
              have hCt := contf_rng y w15.heap.size Ag (unionR (rangesAt f.ss ⟨y.f0, y.f1⟩)) cg (w15.alloc (.cells #[.int .i64 y.f0, .int .i64 y.f1, .string y.f2] 37)) (Kd.R_reads' hrow).2.2 (heap_new _ _)
              generalize hcv : (unionR (rangesAt f.ss ⟨y.f0, y.f1⟩)).any (fun q => hasB q y.f2) = cv at hCt
              have HCv := Aside0.mk hcv
              have HCt := Aside0.mk hCt
              have HN16 := Aside0.mk hN16
              have hlow8 := HN15.out.lt.2
              have hne1 : (wq.heap.size = w15.heap.size) = False := eq_false (by omega)
              have HX16 := Aside0.mk (heap_new w15 (.cells #[.int .i64 y.f0, .int .i64 y.f1, .string y.f2] 37))
              have HBx := Aside0.mk hBx
              clear hC hy hyf hyp hyw hBx hN16 hrow hvg hCt hcv
              generalize (unionR (rangesAt f.ss ⟨y.f0, y.f1⟩)).length = ul at *
              --@O
              cases cv with
              | true =>
                go_wp2_with (go_at_call 53; refine HCt.out.mono ?_; rintro e w16 ⟨rfl, hb⟩; have HN17 := Aside0.mk (HN16.out.below hb); have HO17 := Aside0.mk ((HO15.out.below HBx.out).below hb); clear hb HCt HN16 HX16 hlk)
                --@P
                go_roundg (rr.length - (k + 1))
                case measure => have := HM15.out; omega
                case rel => exact ⟨k + 1, _, _, by go_num, hlt4, ⟨Nat.le_refl _⟩, ⟨HN17.out⟩, ⟨by rw [HPp.out, take_snoc HYy.out, List.filter_append]; simp [HCv.out]⟩, HO17, HNe⟩
              | false =>
                go_wp2_with (first | (go_at_call 53; refine HCt.out.mono ?_; rintro e w16 ⟨rfl, hb⟩; have HN17 := Aside0.mk (HN16.out.below hb); have HX17 := Aside0.mk ((hb.block _ (lt_of HX16.out)).trans HX16.out); have HO17 := Aside0.mk ((HO15.out.below HBx.out).below hb); have p0 : w16.cell? ⟨w15.heap.size, 0, none⟩ = some (.int .i64 y.f0) := cell_of HX17.out 0; have p1 : w16.cell? ⟨w15.heap.size, 1, none⟩ = some (.int .i64 y.f1) := cell_of HX17.out 1; have p2 : w16.cell? ⟨w15.heap.size, 2, none⟩ = some (.string y.f2) := cell_of HX17.out 2; have o0 : w16.cell? ⟨wq.heap.size, 0, none⟩ = some vp := cell_of HN17.out.out 0; have q1 := HN17.out.lt.2; have q2 := lt_of HX17.out; have HB18 := Aside0.mk (below_alloc (Below.refl w16.heap.size w16) (.cells #[.int .i64 y.f0, .int .i64 y.f1, .string y.f2] 37)); have HN18 := Aside0.mk (HN17.out.below HB18.out); have HO18 := Aside0.mk (HO17.out.below HB18.out); have HX18 := Aside0.mk (heap_new w16 (.cells #[.int .i64 y.f0, .int .i64 y.f1, .string y.f2] 37)); have HBs := Aside0.mk (Nat.le_trans HN18.out.le HN18.out.low.size); have hne3 : (wq.heap.size = w16.heap.size) = False := eq_false (by omega); clear hb HCt HN16 HX16 hlk) | ((with_reducible refine gate_builtin (b := .append) (xs := #[.tmp 93, .tmp 95]) rfl ?_); at_builtin; (refine app37b (w16.alloc (.cells #[.int .i64 y.f0, .int .i64 y.f1, .string y.f2] 37)) rfl (.tmp 93) (.tmp 95) rfl (w.heap.size + 1 + 1) vp pp y rfl w16.heap.size rfl HX18.out (R_loose37 HN18.out.rp) HBs.out HLL.out ?_); intro v' w19 hv' hg19 hat; obtain ⟨Av, nv, cv, rfl⟩ : ∃ A n c, v' = Value.slice A n c := (by obtain ⟨A, c, h⟩ := Kd.R_slice hv'; exact ⟨A, _, c, h⟩); have hb19 := HN18.out.outP hg19; have o0 : w19.cell? ⟨wq.heap.size, 0, none⟩ = some vp := cell_of hb19 0; have of0 : w19.frozen? ⟨wq.heap.size, 0, none⟩ = false := frozen_of hb19 0; have HN20 := Aside0.mk (HN18.out.point hv' hg19); have HO20 := Aside0.mk (HO18.out.same (w' := w19.setCell ⟨wq.heap.size, 0, none⟩ (.slice Av nv cv)) (fun g cur h1 h2 => (Below.heap_setCell _ _ _ _ (by intro e; subst e; have := HN18.out.out.symm.trans h2; injection this with this; injection this with _ ht; exact absurd ht (by decide))).trans (hg19.block g (lt_of h2) (fun e => HNe.out g e.symm h1)))); have HNe20 : Aside0 (∀ g, (Value.slice Av nv cv).ownBlock = some g → (Value.slice (some ad2) rr.length cr).ownBlock ≠ some g) := Aside0.mk (fun g h1 h2 => (by rcases hat with h | h; exact HNe.out g (by rw [← h]; exact h1) h2; have h3 := (HO18.out.own_lt h2).1; rw [h] at h1; have h4 := Option.some.inj h1; omega)); clear hv' hg19 hat hb19))
                --@Q
                go_roundg (rr.length - (k + 1))
                case measure => have := HM15.out; omega
                case rel => exact ⟨k + 1, _, _, by go_num, hlt4, ⟨Nat.le_refl _⟩, ⟨HN20.out⟩, ⟨by rw [HPp.out, take_snoc HYy.out, List.filter_append]; simp [HCv.out]⟩, HO20, HNe20⟩
            · obtain rfl : k = rr.length := by omega
              have hltz4 : ¬ (rr.length : Int) < (rr.length : Int) := by omega
              have hpp := HPp.out
              rw [List.take_length] at hpp
              have HPp2 := Aside0.mk hpp
              have hx0 := (HN15.out.low.block w.heap.size (by omega)).trans D0.out
              have hB15 : Below w.heap.size w w15 := Below.trans HB1.out (HN15.out.low.mono (by omega))
              have m2 : w15.cell? ⟨w.heap.size, 2, none⟩ = some (.slice A2 f.ws.length c2) := cell_of hx0 2
              have HOn := Aside0.mk (once_any f.ws A2 c2 w15 (Kd.C_below HF.out.h2 hB15) (by omega) HWf.out.2)
              have HB15 := Aside0.mk hB15
              obtain ⟨Avp, nvp, cvp, rfl⟩ : ∃ A n c, vp = Value.slice A n c := (by obtain ⟨A, c, h⟩ := Kd.R_slice HN15.out.rp; exact ⟨A, _, c, h⟩)
              obtain ⟨Avs, nvs, cvs, rfl⟩ : ∃ A n c, vs = Value.slice A n c := (by obtain ⟨A, c, h⟩ := Kd.R_slice HN15.out.rs; exact ⟨A, _, c, h⟩)
              clear hpp hx0 hB15 HPp
              --@R
              go_wp2_with fail
              refine HOn.out.mono ?_
              rintro e w17 ⟨v2, rs, rfl, hs, ho, hb⟩
              obtain ⟨Aw, cw, rfl, hcw, -⟩ := ho.read
              have HSw := Aside0.mk hs
              have HOw := Aside0.mk ho
              have HN17 := Aside0.mk (HN15.out.below hb)
              have HB17 := Aside0.mk (below_step HB15.out hb)
              have HX1 := Aside0.mk ((HN17.out.low.block (w.heap.size + 1) (by omega)).trans D1.out)
              have HOp := Aside0.mk ((OwnG.of_R37 HN15.out.rp).below hb)
              have HOs := Aside0.mk ((OwnG.of_R46 HN15.out.rs).below hb)
              have HNe2 := Aside0.mk (own_ne_lt (OwnG.of_R37 HN15.out.rp) ho (Nat.le_refl _))
              have o0 : w17.cell? ⟨wq.heap.size, 0, none⟩ = some (.slice Avp nvp cvp) := cell_of HN17.out.out 0
              have o1 : w17.cell? ⟨wq.heap.size, 1, none⟩ = some (.slice Avs nvs cvs) := cell_of HN17.out.out 1
              have o2 : w17.cell? ⟨wq.heap.size, 2, none⟩ = some (.slice none 0 0) := cell_of HN17.out.out 2
              have of2 : w17.frozen? ⟨wq.heap.size, 2, none⟩ = false := frozen_of HN17.out.out 2
              have j0 : w17.cell? ⟨w.heap.size + 1, 0, none⟩ = some (.slice none 0 0) := cell_of HX1.out 0
              have j1 : w17.cell? ⟨w.heap.size + 1, 1, none⟩ = some (.slice none 0 0) := cell_of HX1.out 1
              have j2 : w17.cell? ⟨w.heap.size + 1, 2, none⟩ = some (.slice none 0 0) := cell_of HX1.out 2
              have k0 : w17.frozen? ⟨w.heap.size + 1, 0, none⟩ = false := frozen_of HX1.out 0
              have k1 : w17.frozen? ⟨w.heap.size + 1, 1, none⟩ = false := frozen_of HX1.out 1
              have k2 : w17.frozen? ⟨w.heap.size + 1, 2, none⟩ = false := frozen_of HX1.out 2
              have hbb := HN17.out.bb
              have e1 : (w.heap.size + 1 = wq.heap.size) = False := eq_false (by omega)
              have e2 : (wq.heap.size = w.heap.size + 1) = False := eq_false (by omega)
              clear hs ho hb hbb
              --@R2
              go_wp2
              --@S
              have hw18 : (w17.setCell ⟨wq.heap.size, 2, none⟩ (.slice Aw rs.length cw)).heap[w.heap.size + 1]? = some zFt := (Below.heap_setCell _ _ _ _ (by have := HN17.out.bb; show w.heap.size + 1 ≠ wq.heap.size; omega)).trans HX1.out
              obtain ⟨cs1, hc1⟩ := setc_typed hw18 (w.heap.size + 1) 0 (.slice Avp nvp cvp)
              obtain ⟨cs2, hc2⟩ := setc_typed hc1 (w.heap.size + 1) 1 (.slice Avs nvs cvs)
              refine bodyPost_ret (results_c1 rfl _ _ (w.heap.size + 1) 25 #[.slice Avp nvp cvp, .slice Avs nvs cvs, .slice Aw rs.length cw] (0, 0) _ rfl (setCell_heap (setCell_heap (setCell_heap hw18 _) _) _) Tryz.underlying25 rfl (by kernel_rfl)) rfl ?_
              refine ⟨⟨pp, sp, rs⟩, r, _, .slice Avp nvp cvp, .slice Avs nvs cvs, .slice Aw rs.length cw, rfl, ⟨H1.out, H2.out, HSp2.out, ⟨rr, HSr.out, HPp2.out⟩, HSw.out⟩, ⟨rfl, ?_, ?_, ?_, HNe2.out⟩, ?_⟩
              · exact OwnG_lower ((((HOp.out.setc HN17.out.out (by decide) 2 _).setc hw18 (by decide) 0 _).setc hc1 (by decide) 1 _).setc hc2 (by decide) 2 _) (by omega)
              · exact OwnG_lower ((((HOs.out.setc HN17.out.out (by decide) 2 _).setc hw18 (by decide) 0 _).setc hc1 (by decide) 1 _).setc hc2 (by decide) 2 _) (by omega)
              · exact OwnG_lower ((((HOw.out.setc HN17.out.out (by decide) 2 _).setc hw18 (by decide) 0 _).setc hc1 (by decide) 1 _).setc hc2 (by decide) 2 _) HB15.out.size
              · exact (((HB17.out.setCell (p := ⟨wq.heap.size, 2, none⟩) (by have := HN17.out.bb; show w.heap.size ≤ wq.heap.size; omega) _).setCell (p := ⟨w.heap.size + 1, 0, none⟩) (by show w.heap.size ≤ w.heap.size + 1; omega) _).setCell (p := ⟨w.heap.size + 1, 1, none⟩) (by show w.heap.size ≤ w.heap.size + 1; omega) _).setCell (p := ⟨w.heap.size + 1, 2, none⟩) (by show w.heap.size ≤ w.heap.size + 1; omega) _
structure Fr (w3 : World) (bo : Nat) (w : World) : Prop where
  low : Below bo w3 w
  keep : ∀ k, k < w3.heap.size → k ≠ bo → w.heap[k]? = w3.heap[k]?
  bb : bo < w3.heap.size
section
variable {w3 w w' : World} {bo : Nat}
theorem Fr.refl (h : bo < w3.heap.size) : Fr w3 bo w3 := ⟨Below.refl _ _, fun _ _ _ => rfl, h⟩
theorem Fr.size (h : Fr w3 bo w) : w3.heap.size ≤ w.heap.size := h.low.size
theorem Fr.below (h : Fr w3 bo w) (hb : Below w.heap.size w w') : Fr w3 bo w' :=
  ⟨Below.trans h.low (hb.mono (Nat.le_trans (Nat.le_of_lt h.bb) h.size)), fun k h1 h2 => (hb.block k (Nat.lt_of_lt_of_le h1 h.size)).trans (h.keep k h1 h2), h.bb⟩
theorem Fr.grown (h : Fr w3 bo w) {row : Option Nat} (hg : w.grownBy w' row) (hr : ∀ k, row = some k → w3.heap.size ≤ k) : Fr w3 bo w' :=
  ⟨h.low.grown hg (Nat.le_trans (Nat.le_of_lt h.bb) h.size) (fun k e => Nat.le_trans (Nat.le_of_lt h.bb) (hr k e)), fun k h1 h2 => (hg.block k (Nat.lt_of_lt_of_le h1 h.size) (fun e => by have := hr k e.symm; omega)).trans (h.keep k h1 h2), h.bb⟩
theorem Fr.set (h : Fr w3 bo w) (i : Nat) (v : Value) : Fr w3 bo (w.setCell ⟨bo, i, none⟩ v) :=
  ⟨h.low.setCell (p := ⟨bo, i, none⟩) (Nat.le_refl _) _, fun k h1 h2 => (Below.heap_setCell _ _ _ _ h2).trans (h.keep k h1 h2), h.bb⟩
theorem Fr.trans {w4 : World} (h : Fr w3 bo w) (h' : Fr w bo w4) : Fr w3 bo w4 :=
  ⟨Below.trans h.low h'.low, fun k h1 h2 => (h'.keep k (Nat.lt_of_lt_of_le h1 h.size) h2).trans (h.keep k h1 h2), h.bb⟩
def isSl : Value → Bool | .slice _ _ _ => true | _ => false
/-- A cell that is no slice is kept. -/
theorem Fr.cell (h : Fr w3 bo w) {cs : Array Value} {t : Nat} {fr : Nat × Nat} (hb : w3.heap[bo]? = some (.cells cs t fr)) (hs : ∀ (i : Nat) (v : Value), cs[i]? = some v → isSl v = true) {a : Addr} {v : Value} (ha : w3.cell? a = some v) (hv : isSl v = false) : w.cell? a = some v := by
  have hlt := World.block_lt_of_cell? _ _ ha
  by_cases e : a.block = bo
  · exfalso
    have hb' : w3.heap[a.block]? = some (.cells cs t fr) := by rw [e]; exact hb
    have ha2 : a.spot = none ∧ cs[a.off]? = some v := by simpa [World.cell?, hb'] using ha
    have := hs _ v ha2.2
    rw [this] at hv
    cases hv
  · have := h.keep a.block hlt e
    simpa [World.cell?, this] using ha
theorem Fr.C37 (h : Fr w3 bo w) {cs : Array Value} {t : Nat} {fr : Nat × Nat} (hb : w3.heap[bo]? = some (.cells cs t fr)) (hs : ∀ (i : Nat) (v : Value), cs[i]? = some v → isSl v = true) {A : Option Addr} {n : Nat} {xs : List S37} (hC : Kd.C k37 w3 A n xs) : Kd.C k37 w A n xs :=
  ⟨hC.1, hC.2.1, fun hn => by
    obtain ⟨ad, e, hc⟩ := hC.2.2 hn
    refine ⟨ad, e, fun j p hj => ?_⟩
    obtain ⟨c, h1, h2, h3⟩ := hc j p hj
    have hc := k37_open h2
    refine ⟨c, h1, by rw [hc]; exact k37_mk w p, fun i u hu => h.cell hb hs (h3 i u hu) ?_⟩
    have := List.mem_of_getElem? hu
    rw [hc] at this
    simp only [List.mem_cons, List.not_mem_nil, or_false] at this
    rcases this with rfl | rfl | rfl <;> rfl⟩
theorem Fr.C46 (h : Fr w3 bo w) {cs : Array Value} {t : Nat} {fr : Nat × Nat} (hb : w3.heap[bo]? = some (.cells cs t fr)) (hs : ∀ (i : Nat) (v : Value), cs[i]? = some v → isSl v = true) {A : Option Addr} {n : Nat} {xs : List S46} (hC : Kd.C k46 w3 A n xs) : Kd.C k46 w A n xs :=
  ⟨hC.1, hC.2.1, fun hn => by
    obtain ⟨ad, e, hc⟩ := hC.2.2 hn
    refine ⟨ad, e, fun j p hj => ?_⟩
    obtain ⟨c, h1, h2, h3⟩ := hc j p hj
    have hc := k46_open h2
    refine ⟨c, h1, by rw [hc]; exact k46_mk w p, fun i u hu => h.cell hb hs (h3 i u hu) ?_⟩
    have := List.mem_of_getElem? hu
    rw [hc] at this
    simp only [List.mem_cons, List.not_mem_nil, or_false] at this
    rcases this with rfl | rfl | rfl | rfl | rfl <;> rfl⟩
end
theorem allSl {a b c : Value} (ha : isSl a = true) (hb : isSl b = true) (hc : isSl c = true) : ∀ (i : Nat) (v : Value), (#[a, b, c] : Array Value)[i]? = some v → isSl v = true := by
  intro i v h
  have hm := Array.mem_of_getElem? h
  simp at hm
  rcases hm with rfl | rfl | rfl <;> assumption
end Go.Proofs.YtldlenjfpjihdaaGreat.PS
end
section
namespace Go.Proofs.YtldlenjfpjihdaaGreat.PA
open Go.Proofs.YtldlenjfpjihdaaGreat.PS hiding below_step bs bless_eq
open Go.RowKit Go.Proofs Go.Proofs.YtldlenjfpjihdaaGreatW.PrintWords Go.Proofs.YtldlenjfpjihdaaGreatW.PrintLast Go.Proofs.YtldlenjfpjihdaaGreatW.PrintMore Go.Proofs.YtldlenjfpjihdaaGreat.PU
attribute [local go_sem] Go.Lib.run_max_strs Go.Lib.run_min_strs
set_option linter.unusedVariables false
set_option linter.unusedSimpArgs false
end Go.Proofs.YtldlenjfpjihdaaGreat.PA
end
section
namespace Go.Proofs.YtldlenjfpjihdaaGreat.PS
open Go Go.RowKit Go.Proofs Go.Maps Go.WideMaps Go.Proofs.YtldlenjfpjihdaaGreatW.PrintWords Go.Proofs.YtldlenjfpjihdaaGreatW.PrintLast Go.Proofs.YtldlenjfpjihdaaGreatW.PrintMore
set_option linter.unusedVariables false
set_option linter.unusedSimpArgs false
def okI (t i : Int) : Bool := decide (t ≥ 0) && decide (i ≥ -1)
def badP (p : S37) : Bool := !okI p.f0 p.f1
def badS (s : S46) : Bool := !okI s.f0 s.f1
def Ft.len (f : Ft) : Nat := f.ps.length + f.ss.length + f.ws.length
def Ft.bad (f : Ft) : Bool := f.ps.any badP || (f.ss.any badS || f.ws.any badP)
def checkS (f : Ft) : Int := if f.len > 65536 then 2 else if f.bad = true then 1 else 0
theorem place_eq (t i : Int) : vellumref17_place.f t i = some (okI t i) := by
  unfold vellumref17_place.f okI
  by_cases h : t ≥ 0
  · rw [if_pos h]; simp [h]
  · rw [if_neg h]; simp [h]
theorem may_eq (t i : Int) : sets_may.f t i = some (okI t i) := place_eq t i
theorem check1_any (p : S37) (w : World) : Calls Tryz.prog 23 (#[pv p] ++ #[]) w fun e w' => e = .returned (.bool (badP p)) ∧ Below w.heap.size w w' := by
  have hm := fun W => sets_may.calls p.f0 p.f1 (okI p.f0 p.f1) W (may_eq p.f0 p.f1)
  unfold pv badP
  generalize okI p.f0 p.f1 = ok at *
  go_enter Tryz.func23, Tryz.ntmps23
  go_wp2_with (go_at_call 24; refine (hm _).mono ?_; rintro e w' ⟨rfl, hD⟩; have HD := Aside0.mk hD; clear hD)
  go_ret
  exact ⟨rfl, below_step (below_alloc (Below.refl w.heap.size w) _) HD.out.below⟩
theorem enter23 : ∀ args w, (callFunc 23 args).run Tryz.prog w = .ok (.enter 23 args) w := fun args w => by simp [go_sem]
theorem check2_any (s : S46) (w : World) : Calls Tryz.prog 28 (#[sv s] ++ #[]) w fun e w' => e = .returned (.bool (badS s)) ∧ Below w.heap.size w w' := by
  have hm := fun W => sets_may.calls s.f0 s.f1 (okI s.f0 s.f1) W (may_eq s.f0 s.f1)
  unfold sv badS
  generalize okI s.f0 s.f1 = ok at *
  go_enter Tryz.func28, Tryz.ntmps28
  go_wp2_with (go_at_call 24; refine (hm _).mono ?_; rintro e w' ⟨rfl, hD⟩; have HD := Aside0.mk hD; clear hD)
  go_ret
  exact ⟨rfl, below_step (below_alloc (Below.refl w.heap.size w) _) HD.out.below⟩
theorem enter28 : ∀ args w, (callFunc 28 args).run Tryz.prog w = .ok (.enter 28 args) w := fun args w => by simp [go_sem]
theorem contf_point (p : S37 → Bool) (g : Nat) (lb : Array Value) (eg : ∀ args w, (callFunc g args).run Tryz.prog w = .ok (.enter g args) w) (A : Option Addr) (xs : List S37) (c : Nat) (w : World) (hC : Kd.C k37 w A xs.length xs)
    (hp : ∀ (W : World) (x : S37), x ∈ xs → Below w.heap.size w W → Calls Tryz.prog g (#[pv x] ++ lb) W fun e w' => e = .returned (.bool (p x)) ∧ Below W.heap.size W w') :
    Calls Tryz.prog 26 #[.slice A xs.length c, .func (.func g) #[] lb] w fun e w' => e = .returned (.bool (xs.any p)) ∧ Below w.heap.size w w' := by
  have hi := idxf_point p g lb eg A xs c w hC hp
  clear hp hC
  go_enter Tryz.func26, Tryz.ntmps26
  go_wp2_with (go_at_call 59; refine hi.mono ?_; rintro e w' ⟨rfl, hb⟩)
  go_ret
  exact ⟨by rw [← idxF_nonneg]; rfl, hb⟩
theorem size_ev (f : Ft) (hs : f.small) : sets_size.f f.ps f.ss f.ws = some (f.len : Int) := by
  have hn := hs.n
  unfold sets_size.f Ft.len
  rw [wrap64_id (n := (f.ps.length : Int) + (f.ss.length : Int)) (by omega) (by omega), wrap64_id (by omega) (by omega)]
  rfl
set_option maxHeartbeats 8000000 in
set_option maxRecDepth 100000 in
theorem check_any (f : Ft) (A0 A1 A2 : Option Addr) (c0 c1 c2 : Nat) (w : World) (hf : FtR w A0 A1 A2 c0 c1 c2 f) (hs : f.small) :
    Calls Tryz.prog 11 #[.agg #[.slice A0 f.ps.length c0, .slice A1 f.ss.length c1, .slice A2 f.ws.length c2]] w fun e w' => e = .returned (.int .i64 (checkS f)) ∧ Below w.heap.size w w' := by
  have hB0 := below_alloc (Below.refl w.heap.size w) (ftO A0 A1 A2 c0 c1 c2 f)
  have HX := Aside0.mk (heap_new w (ftO A0 A1 A2 c0 c1 c2 f))
  have HSz := Aside0.mk (sets_size.calls A0 c0 f.ps A1 c1 f.ss A2 c2 f.ws (f.len : Int) (w.alloc (ftO A0 A1 A2 c0 c1 c2 f)) (Kd.C_below hf.h0 hB0) hf.l0 (Kd.C_below hf.h1 hB0) hf.l1 (Kd.C_below hf.h2 hB0) hf.l2 (size_ev f hs))
  have HP := Aside0.mk (fun (W : World) (h : Below w.heap.size w W) => contf_point badP 23 #[] enter23 A0 f.ps c0 W (Kd.C_below hf.h0 h) (fun V x _ _ => check1_any x V))
  have HW := Aside0.mk (fun (W : World) (h : Below w.heap.size w W) => contf_point badP 23 #[] enter23 A2 f.ws c2 W (Kd.C_below hf.h2 h) (fun V x _ _ => check1_any x V))
  have HS := Aside0.mk (fun (W : World) (h : Below w.heap.size w W) => contf_span badS 28 #[] enter28 A1 f.ss c1 W (Kd.C_below hf.h1 h) (fun V x _ _ => check2_any x V))
  have HB := Aside0.mk hB0
  unfold ftO at HSz HX HB
  clear hB0 hf
  have hck : checkS f = if f.len > 65536 then 2 else if f.bad = true then 1 else 0 := rfl
  have hbd : f.bad = (f.ps.any badP || (f.ss.any badS || f.ws.any badP)) := rfl
  rw [hck, hbd]
  clear hck hbd
  have hbl : f.len < 90000000000000 := by have := hs.n; unfold Ft.len; omega
  clear hs
  generalize f.len = n at *
  generalize hlp : f.ps.any badP = bp at *
  generalize hlw : f.ws.any badP = bw at *
  generalize hls : f.ss.any badS = bs_ at *
  generalize f.ps.length = n0 at *
  generalize f.ss.length = n1 at *
  generalize f.ws.length = n2 at *
  clear hlp hlw hls
  go_enter Tryz.func11, Tryz.ntmps11
  by_cases hc : n > 65536
  · rw [if_pos hc]
    have hcz : (n : Int) > 65536 := by omega
    go_wp2_with (go_at_call 25; refine HSz.out.mono ?_; rintro e w2 ⟨rfl, hb⟩; have HB2 := Aside0.mk (below_step HB.out hb); clear hb)
    go_ret
    exact ⟨rfl, HB2.out⟩
  · rw [if_neg hc]
    have hcz : ¬ (n : Int) > 65536 := by omega
    cases bp <;> cases bw <;> cases bs_
    all_goals
      go_wp2_with (first | (go_at_call 25; refine HSz.out.mono ?_; rintro e w2 ⟨rfl, hb⟩; have HX2 := Aside0.mk ((hb.block _ (lt_of HX.out)).trans HX.out); have HB2 := Aside0.mk (below_step HB.out hb); have p0 : w2.cell? ⟨w.heap.size, 0, none⟩ = some (.slice A0 n0 c0) := cell_of HX2.out 0; have p1 : w2.cell? ⟨w.heap.size, 1, none⟩ = some (.slice A1 n1 c1) := cell_of HX2.out 1; have p2 : w2.cell? ⟨w.heap.size, 2, none⟩ = some (.slice A2 n2 c2) := cell_of HX2.out 2; clear hb HSz HX HB) | (go_at_call 26; refine (HP.out _ HB2.out).mono ?_; rintro e w3 ⟨rfl, hb⟩; have HX3 := Aside0.mk ((hb.block _ (lt_of HX2.out)).trans HX2.out); have HB3 := Aside0.mk (below_step HB2.out hb); have p0 : w3.cell? ⟨w.heap.size, 0, none⟩ = some (.slice A0 n0 c0) := cell_of HX3.out 0; have p1 : w3.cell? ⟨w.heap.size, 1, none⟩ = some (.slice A1 n1 c1) := cell_of HX3.out 1; have p2 : w3.cell? ⟨w.heap.size, 2, none⟩ = some (.slice A2 n2 c2) := cell_of HX3.out 2; clear hb HP HX2) | (go_at_call 26; refine (HW.out _ HB3.out).mono ?_; rintro e w4 ⟨rfl, hb⟩; have HX4 := Aside0.mk ((hb.block _ (lt_of HX3.out)).trans HX3.out); have HB4 := Aside0.mk (below_step HB3.out hb); have p0 : w4.cell? ⟨w.heap.size, 0, none⟩ = some (.slice A0 n0 c0) := cell_of HX4.out 0; have p1 : w4.cell? ⟨w.heap.size, 1, none⟩ = some (.slice A1 n1 c1) := cell_of HX4.out 1; have p2 : w4.cell? ⟨w.heap.size, 2, none⟩ = some (.slice A2 n2 c2) := cell_of HX4.out 2; clear hb HW HX3) | (go_at_call 27; refine (HS.out _ HB4.out).mono ?_; rintro e w5 ⟨rfl, hb⟩; have HB5 := Aside0.mk (below_step HB4.out hb); clear hb))
      go_ret
      first | exact ⟨rfl, HB5.out⟩ | exact ⟨rfl, HB4.out⟩ | exact ⟨rfl, HB3.out⟩
theorem checkV {w : World} {v : Value} {f : Ft} (h : FtV w v f) (hs : f.small) : Calls Tryz.prog 11 #[v] w fun e w' => e = .returned (.int .i64 (checkS f)) ∧ Below w.heap.size w w' := by
  obtain ⟨A0, A1, A2, c0, c1, c2, rfl, h⟩ := h
  exact check_any f A0 A1 A2 c0 c1 c2 w h hs
end Go.Proofs.YtldlenjfpjihdaaGreat.PS
end
section
namespace Go.Proofs.YtldlenjfpjihdaaGreat.PS
open Go Go.RowKit Go.Proofs Go.Maps Go.WideMaps Go.Proofs.YtldlenjfpjihdaaGreatW.PrintWords Go.Proofs.YtldlenjfpjihdaaGreatW.PrintLast Go.Proofs.YtldlenjfpjihdaaGreatW.PrintMore
set_option linter.unusedVariables false
set_option linter.unusedSimpArgs false
open Go.Proofs.YtldlenjfpjihdaaGreat.PU (unionR)
def Ft.nil : Ft := ⟨[], [], []⟩
/-- What Norm tells. -/
def NormR (f g : Ft) : Prop := (checkS f = 0 ∧ ∃ pl, NormOf f g pl) ∨ (checkS f ≠ 0 ∧ g = Ft.nil)
def Ft.wfs (f : Ft) : Prop := f.wf ∧ ∀ s ∈ f.ss, wfL (plS s)
theorem check_len {f : Ft} (h : checkS f = 0) : f.ps.length + f.ss.length + f.ws.length ≤ 65536 := by
  unfold checkS Ft.len at h
  by_cases h1 : f.ps.length + f.ss.length + f.ws.length > 65536
  · rw [if_pos h1] at h; cases h
  · omega
theorem FtO.nil (w : World) (b : Nat) : FtO w b (.agg #[.slice none 0 0, .slice none 0 0, .slice none 0 0]) Ft.nil (.slice none 0 0) (.slice none 0 0) (.slice none 0 0) := ⟨rfl, .inl ⟨rfl, rfl⟩, .inl ⟨rfl, rfl⟩, .inl ⟨rfl, rfl⟩, fun k h => by simp [Value.ownBlock] at h⟩
theorem FtO.setc {w : World} {b g i : Nat} {v u : Value} {f : Ft} {v0 v1 v2 : Value} {cs : Array Value} (h : FtO w b v f v0 v1 v2) (hb : w.heap[g]? = some (.cells cs 25 (0, 0))) : FtO (w.setCell ⟨g, i, none⟩ u) b v f v0 v1 v2 :=
  ⟨h.eq, h.h0.setc hb (by decide) i u, h.h1.setc hb (by decide) i u, h.h2.setc hb (by decide) i u, h.ne⟩
theorem FtO.lower {w : World} {b b' : Nat} {v : Value} {f : Ft} {v0 v1 v2 : Value} (h : FtO w b v f v0 v1 v2) (hb : b' ≤ b) : FtO w b' v f v0 v1 v2 := ⟨h.eq, OwnG_lower h.h0 hb, OwnG_lower h.h1 hb, OwnG_lower h.h2 hb, h.ne⟩
theorem FtV.keep {w3 w : World} {bo : Nat} {v : Value} {f : Ft} (hf : FtV w3 v f) (h : Fr w3 bo w) {cs : Array Value} {t : Nat} {fr : Nat × Nat} (hb : w3.heap[bo]? = some (.cells cs t fr)) (hs : ∀ (i : Nat) (v : Value), cs[i]? = some v → isSl v = true) : FtV w v f := by
  obtain ⟨A0, A1, A2, c0, c1, c2, e, h0, l0, h1, l1, h2, l2⟩ := hf
  exact ⟨A0, A1, A2, c0, c1, c2, e, h.C37 hb hs h0, l0, h.C46 hb hs h1, l1, h.C37 hb hs h2, l2⟩
set_option maxHeartbeats 8000000 in
set_option maxRecDepth 100000 in
theorem normV {w : World} {v : Value} {f : Ft} (hf : FtV w v f) (hs : f.small) (hw : f.wfs) : Calls Tryz.prog 7 #[v] w fun e w' => ∃ (g : Ft) (v' v0 v1 v2 : Value), e = .returned (.tuple #[v', .int .i64 (checkS f)]) ∧ NormR f g ∧ FtO w' w.heap.size v' g v0 v1 v2 ∧ Below w.heap.size w w' := by
  obtain ⟨A0, A1, A2, c0, c1, c2, rfl, hf⟩ := hf
  generalize hW : (w.alloc (ftO A0 A1 A2 c0 c1 c2 f)).alloc zFt = w1
  have hB1 : Below w.heap.size w w1 := by rw [← hW]; exact below_alloc (below_alloc (Below.refl _ _) _) _
  have b0 : w1.heap[w.heap.size]? = some (ftO A0 A1 A2 c0 c1 c2 f) := by rw [← hW]; exact heap_old (heap_new _ _)
  have b1 : w1.heap[w.heap.size + 1]? = some zFt := by rw [← hW]; have := heap_new (w.alloc (ftO A0 A1 A2 c0 c1 c2 f)) zFt; rw [size_new] at this; exact this
  have HF := Aside0.mk hf
  have HB1 := Aside0.mk hB1
  have D0 := Aside0.mk b0
  have D1 := Aside0.mk b1
  have HSm := Aside0.mk hs
  have HWf := Aside0.mk hw
  clear hw
  unfold ftO zFt at hW
  have HW := Aside0.mk hW
  clear hW hB1 b0 b1 hf hs
  unfold fv
  go_enter Tryz.func7, Tryz.ntmps7
  --@A
  go_wp2_with fail
  rw [HW.out]
  clear HW
  refine (checkV ⟨A0, A1, A2, c0, c1, c2, rfl, HF.out.below HB1.out⟩ HSm.out).mono ?_
  rintro e w2 ⟨rfl, hb⟩
  have hx0 := (hb.block _ (lt_of D0.out)).trans D0.out
  have hx1 := (hb.block _ (lt_of D1.out)).trans D1.out
  have HX1 := Aside0.mk hx1
  have HB2 := Aside0.mk (below_step HB1.out hb)
  have p0 : w2.cell? ⟨w.heap.size, 0, none⟩ = some (.slice A0 f.ps.length c0) := cell_of hx0 0
  have p1 : w2.cell? ⟨w.heap.size, 1, none⟩ = some (.slice A1 f.ss.length c1) := cell_of hx0 1
  have p2 : w2.cell? ⟨w.heap.size, 2, none⟩ = some (.slice A2 f.ws.length c2) := cell_of hx0 2
  have hz2 := lt_of hx1
  clear hb hx0 hx1 D0 D1
  have hSl := allSl (a := .slice none 0 0) (b := .slice none 0 0) (c := .slice none 0 0) rfl rfl rfl
  have HSl := Aside0.mk hSl
  clear hSl
  by_cases hc : checkS f = 0
  · have HC := Aside0.mk hc
    have HN := Aside0.mk (check_len hc)
    rw [hc]
    clear hc
    --@B
    go_wp2_with fail
    refine (norm_any f A0 A1 A2 c0 c1 c2 w2 (HF.out.below HB2.out) HWf.out.1 HWf.out.2 HN.out).mono ?_
    rintro e w3 ⟨g, pl, v, v0, v1, v2, rfl, hno, ho, hb⟩
    have HX3 := Aside0.mk ((hb.block _ (lt_of HX1.out)).trans HX1.out)
    have HB3 := Aside0.mk (below_step HB2.out hb)
    obtain ⟨B0, d0, e0, -, -⟩ := ho.h0.C37
    obtain ⟨B1, d1, e1, -, -⟩ := ho.h1.C46
    obtain ⟨B2, d2, e2, -, -⟩ := ho.h2.C37
    subst e0 e1 e2
    have heq := ho.eq
    subst heq
    have HO := Aside0.mk ho
    have HNo := Aside0.mk hno
    clear ho hno
    generalize g.ps.length = n0 at *
    generalize g.ss.length = n1 at *
    generalize g.ws.length = n2 at *
    have j0 : w3.cell? ⟨w.heap.size + 1, 0, none⟩ = some (.slice none 0 0) := cell_of HX3.out 0
    have j1 : w3.cell? ⟨w.heap.size + 1, 1, none⟩ = some (.slice none 0 0) := cell_of HX3.out 1
    have j2 : w3.cell? ⟨w.heap.size + 1, 2, none⟩ = some (.slice none 0 0) := cell_of HX3.out 2
    have k0 : w3.frozen? ⟨w.heap.size + 1, 0, none⟩ = false := frozen_of HX3.out 0
    have k1 : w3.frozen? ⟨w.heap.size + 1, 1, none⟩ = false := frozen_of HX3.out 1
    have k2 : w3.frozen? ⟨w.heap.size + 1, 2, none⟩ = false := frozen_of HX3.out 2
    clear hb p0 p1 p2
    --@C
    go_wp2
    --@D
    obtain ⟨cs1, hc1⟩ := setc_typed HX3.out (w.heap.size + 1) 0 (.slice B0 n0 d0)
    obtain ⟨cs2, hc2⟩ := setc_typed hc1 (w.heap.size + 1) 1 (.slice B1 n1 d1)
    have hFr7 : Fr w3 (w.heap.size + 1) (((w3.setCell ⟨w.heap.size + 1, 0, none⟩ (.slice B0 n0 d0)).setCell ⟨w.heap.size + 1, 1, none⟩ (.slice B1 n1 d1)).setCell ⟨w.heap.size + 1, 2, none⟩ (.slice B2 n2 d2)) := (((Fr.refl (lt_of HX3.out)).set 0 _).set 1 _).set 2 _
    refine bodyPost_ret (results_ct rfl _ _ (w.heap.size + 1) 25 #[.slice B0 n0 d0, .slice B1 n1 d1, .slice B2 n2 d2] (0, 0) _ rfl (setCell_heap (setCell_heap (setCell_heap HX3.out _) _) _) Tryz.underlying25 rfl (by kernel_rfl)) rfl ?_
    exact ⟨g, _, _, _, _, (by rw [HC.out]; rfl), .inl ⟨HC.out, pl, HNo.out⟩, (((HO.out.setc HX3.out).setc hc1).setc hc2).lower HB2.out.size, Below.trans HB3.out (hFr7.low.mono (Nat.le_succ _))⟩
  · have HC := Aside0.mk hc
    have hcb : (checkS f == 0) = false := by simpa using hc
    have j0 : w2.cell? ⟨w.heap.size + 1, 0, none⟩ = some (.slice none 0 0) := cell_of HX1.out 0
    have j1 : w2.cell? ⟨w.heap.size + 1, 1, none⟩ = some (.slice none 0 0) := cell_of HX1.out 1
    have j2 : w2.cell? ⟨w.heap.size + 1, 2, none⟩ = some (.slice none 0 0) := cell_of HX1.out 2
    have k0 : w2.frozen? ⟨w.heap.size + 1, 0, none⟩ = false := frozen_of HX1.out 0
    have k1 : w2.frozen? ⟨w.heap.size + 1, 1, none⟩ = false := frozen_of HX1.out 1
    have k2 : w2.frozen? ⟨w.heap.size + 1, 2, none⟩ = false := frozen_of HX1.out 2
    --@E
    go_wp2
    --@F
    refine bodyPost_ret (results_ct rfl _ _ (w.heap.size + 1) 25 #[.slice none 0 0, .slice none 0 0, .slice none 0 0] (0, 0) _ rfl (setCell_heap (setCell_heap (setCell_heap HX1.out _) _) _) Tryz.underlying25 rfl (by kernel_rfl)) rfl ?_
    have hb : Below w.heap.size w (((w2.setCell ⟨w.heap.size + 1, 0, none⟩ (.slice none 0 0)).setCell ⟨w.heap.size + 1, 1, none⟩ (.slice none 0 0)).setCell ⟨w.heap.size + 1, 2, none⟩ (.slice none 0 0)) := ((HB2.out.setCell (p := ⟨w.heap.size + 1, 0, none⟩) (by show w.heap.size ≤ w.heap.size + 1; omega) _).setCell (p := ⟨w.heap.size + 1, 1, none⟩) (by show w.heap.size ≤ w.heap.size + 1; omega) _).setCell (p := ⟨w.heap.size + 1, 2, none⟩) (by show w.heap.size ≤ w.heap.size + 1; omega) _
    exact ⟨Ft.nil, _, _, _, _, rfl, .inr ⟨HC.out, rfl⟩, FtO.nil _ _, hb⟩
end Go.Proofs.YtldlenjfpjihdaaGreat.PS
end
section
namespace Go.Proofs.YtldlenjfpjihdaaGreat.OpenK
open Go.RowKit Go.Proofs.YtldlenjfpjihdaaGreatW.PrintWords Go.Proofs.YtldlenjfpjihdaaGreat.PS
def wf37 (x : S37) : Prop := (Lit.int .i64 x.f0).wf = true ∧ (Lit.int .i64 x.f1).wf = true ∧ x.f2.size ≤ 140737488351232
theorem wf37_P {x : S37} (h : wf37 x) : wfP x := ⟨h.1, h.2.1, Nat.le_trans h.2.2 (by decide)⟩
theorem opn37 : Opn Tryz.prog 37 k37 wf37 := by
  refine Opn.struct (kd := (Kd.pair (Kd.int .i64) (Kd.pair (Kd.int .i64) Kd.string))) (Wf := fun y => (Lit.int .i64 y.1).wf = true ∧ (Lit.int .i64 y.2.1).wf = true ∧ y.2.2.size ≤ 140737488351232) (fun x : S37 => (x.f0, x.f1, x.f2)) (fun y => ⟨y.1, y.2.1, y.2.2⟩) (fun _ => rfl) Tryz.underlying37 (by kernel_rfl) ?_
  change OpnFs Tryz.prog (_ :: _ :: [_]) 0 _ _
  exact (OpnFs.cons (a := (Kd.int .i64)) (b := (Kd.pair (Kd.int .i64) Kd.string)) (Wa := fun y => (Lit.int .i64 y).wf = true) (Wb := (fun y => (Lit.int .i64 y.1).wf = true ∧ y.2.size ≤ 140737488351232)) rfl (by kernel_rfl) (off' := 1) rfl (Opn.int Tryz.underlying3) (OpnFs.cons (a := (Kd.int .i64)) (b := Kd.string) (Wa := fun y => (Lit.int .i64 y).wf = true) (Wb := (fun y => y.size ≤ 140737488351232)) rfl (by kernel_rfl) (off' := 2) rfl (Opn.int Tryz.underlying3) (OpnFs.one (kd := Kd.string) (Wf := fun y => y.size ≤ 140737488351232) rfl (by kernel_rfl) (Opn.string Tryz.underlying9))))
def wf44 (x : S44) : Prop := x.f0.size ≤ 140737488351232 ∧ x.f1.size ≤ 140737488351232 ∧ True
theorem opn44 : Opn Tryz.prog 44 k44 wf44 := by
  refine Opn.struct (kd := (Kd.pair Kd.string (Kd.pair Kd.string Kd.bool))) (Wf := fun y => y.1.size ≤ 140737488351232 ∧ y.2.1.size ≤ 140737488351232 ∧ True) (fun x : S44 => (x.f0, x.f1, x.f2)) (fun y => ⟨y.1, y.2.1, y.2.2⟩) (fun _ => rfl) Tryz.underlying44 (by kernel_rfl) ?_
  change OpnFs Tryz.prog (_ :: _ :: [_]) 0 _ _
  exact (OpnFs.cons (a := Kd.string) (b := (Kd.pair Kd.string Kd.bool)) (Wa := fun y => y.size ≤ 140737488351232) (Wb := (fun y => y.1.size ≤ 140737488351232 ∧ True)) rfl (by kernel_rfl) (off' := 1) rfl (Opn.string Tryz.underlying9) (OpnFs.cons (a := Kd.string) (b := Kd.bool) (Wa := fun y => y.size ≤ 140737488351232) (Wb := (fun y => True)) rfl (by kernel_rfl) (off' := 2) rfl (Opn.string Tryz.underlying9) (OpnFs.one (kd := Kd.bool) (Wf := fun y => True) rfl (by kernel_rfl) (Opn.bool Tryz.underlying4))))
def wf46 (x : S46) : Prop := (Lit.int .i64 x.f0).wf = true ∧ (Lit.int .i64 x.f1).wf = true ∧ wf44 x.f2
theorem opn46 : Opn Tryz.prog 46 k46 wf46 := by
  refine Opn.struct (kd := (Kd.pair (Kd.int .i64) (Kd.pair (Kd.int .i64) k44))) (Wf := fun y => (Lit.int .i64 y.1).wf = true ∧ (Lit.int .i64 y.2.1).wf = true ∧ wf44 y.2.2) (fun x : S46 => (x.f0, x.f1, x.f2)) (fun y => ⟨y.1, y.2.1, y.2.2⟩) (fun _ => rfl) Tryz.underlying46 (by kernel_rfl) ?_
  change OpnFs Tryz.prog (_ :: _ :: [_]) 0 _ _
  exact (OpnFs.cons (a := (Kd.int .i64)) (b := (Kd.pair (Kd.int .i64) k44)) (Wa := fun y => (Lit.int .i64 y).wf = true) (Wb := (fun y => (Lit.int .i64 y.1).wf = true ∧ wf44 y.2)) rfl (by kernel_rfl) (off' := 1) rfl (Opn.int Tryz.underlying3) (OpnFs.cons (a := (Kd.int .i64)) (b := k44) (Wa := fun y => (Lit.int .i64 y).wf = true) (Wb := (fun y => wf44 y)) rfl (by kernel_rfl) (off' := 2) rfl (Opn.int Tryz.underlying3) (OpnFs.one (kd := k44) (Wf := fun y => wf44 y) rfl (by kernel_rfl) opn44)))
def kFt : Kd Ft := Kd.iso (Kd.pair (Kd.slice 37 k37) (Kd.pair (Kd.slice 46 k46) (Kd.slice 37 k37))) (fun x : Ft => (x.ps, x.ss, x.ws))
def wfFt (x : Ft) : Prop := (x.ps.length * 32 ≤ 140737488351232 ∧ ∀ y ∈ x.ps, wf37 y) ∧ (x.ss.length * 56 ≤ 140737488351232 ∧ ∀ y ∈ x.ss, wf46 y) ∧ (x.ws.length * 32 ≤ 140737488351232 ∧ ∀ y ∈ x.ws, wf37 y)
theorem opnFt : Opn Tryz.prog 25 kFt wfFt := by
  refine Opn.struct (kd := (Kd.pair (Kd.slice 37 k37) (Kd.pair (Kd.slice 46 k46) (Kd.slice 37 k37)))) (Wf := fun y => (y.1.length * 32 ≤ 140737488351232 ∧ ∀ z ∈ y.1, wf37 z) ∧ (y.2.1.length * 56 ≤ 140737488351232 ∧ ∀ z ∈ y.2.1, wf46 z) ∧ (y.2.2.length * 32 ≤ 140737488351232 ∧ ∀ z ∈ y.2.2, wf37 z)) (fun x : Ft => (x.ps, x.ss, x.ws)) (fun y => ⟨y.1, y.2.1, y.2.2⟩) (fun _ => rfl) Tryz.underlying25 (by kernel_rfl) ?_
  change OpnFs Tryz.prog (_ :: _ :: [_]) 0 _ _
  exact (OpnFs.cons (a := (Kd.slice 37 k37)) (b := (Kd.pair (Kd.slice 46 k46) (Kd.slice 37 k37))) (Wa := fun y => (y.length * 32 ≤ 140737488351232 ∧ ∀ z ∈ y, wf37 z)) (Wb := (fun y => (y.1.length * 56 ≤ 140737488351232 ∧ ∀ z ∈ y.1, wf46 z) ∧ (y.2.length * 32 ≤ 140737488351232 ∧ ∀ z ∈ y.2, wf37 z))) rfl (by kernel_rfl) (off' := 1) rfl (Opn.slice Tryz.underlying22 opn37 (by kernel_rfl) (by kernel_rfl)) (OpnFs.cons (a := (Kd.slice 46 k46)) (b := (Kd.slice 37 k37)) (Wa := fun y => (y.length * 56 ≤ 140737488351232 ∧ ∀ z ∈ y, wf46 z)) (Wb := (fun y => (y.length * 32 ≤ 140737488351232 ∧ ∀ z ∈ y, wf37 z))) rfl (by kernel_rfl) (off' := 2) rfl (Opn.slice Tryz.underlying23 opn46 (by kernel_rfl) (by kernel_rfl)) (OpnFs.one (kd := (Kd.slice 37 k37)) (Wf := fun y => (y.length * 32 ≤ 140737488351232 ∧ ∀ z ∈ y, wf37 z)) rfl (by kernel_rfl) (Opn.slice Tryz.underlying22 opn37 (by kernel_rfl) (by kernel_rfl)))))
set_option maxRecDepth 100000 in
/-- A foot as_ an argument. -/
theorem argFt {H : Type} {enc : TypeId × Value → H} {W : World} {n : Nat} {v : Value} {d : DataW H} {ps : List MemPlace} {base : Nat} (hv : Value.okWide Tryz.prog W .any base 25 v)
    (h : DataW.trod enc Tryz.prog W 0 (fun _ => true) true n 25 v.cells.toList = some (d, ps)) (hw : (d.weights Tryz.prog 25).all (· ≤ reachBytes) = true) :
    ∃ (A0 A1 A2 : Option Addr) (c0 c1 c2 : Nat) (f : Ft), v = .agg #[.slice A0 f.ps.length c0, .slice A1 f.ss.length c1, .slice A2 f.ws.length c2] ∧ FtR W A0 A1 A2 c0 c1 c2 f ∧ f.small ∧ f.wfs := by
  obtain ⟨f, hK, wf⟩ := opnFt h hw
  obtain ⟨cs, rfl, hsz⟩ := Go.WideShapes.okWide_struct Tryz.underlying25 hv
  obtain ⟨x1, r1, e1, ⟨A0, c0, rfl, l0, h0⟩, x2, r2, rfl, ⟨A1, c1, rfl, l1, h1⟩, ⟨A2, c2, rfl, l2, h2⟩⟩ := hK
  have e2 : cs = #[.slice A0 f.ps.length c0, .slice A1 f.ss.length c1, .slice A2 f.ws.length c2] := by
    cases cs
    simpa [Value.cells] using e1
  subst e2
  exact ⟨A0, A1, A2, c0, c1, c2, f, rfl, ⟨h0, l0, h1, l1, h2, l2⟩, ⟨wf.1.1, wf.2.1.1, wf.2.2.1⟩, ⟨⟨fun y hy => wf37_P (wf.1.2 y hy), fun y hy => wf37_P (wf.2.2.2 y hy)⟩, fun s hs => ⟨(wf.2.1.2 s hs).1, (wf.2.1.2 s hs).2.1⟩⟩⟩
end Go.Proofs.YtldlenjfpjihdaaGreat.OpenK
end
section
namespace Go.Proofs.YtldlenjfpjihdaaGreat.PS
open Go Go.RowKit Go.Proofs
set_option linter.unusedVariables false
theorem strict_one {α : Type} {lt : α → α → Prop} (irr : ∀ a, ¬ lt a a) (tr : ∀ a b c, lt a b → lt b c → lt a c) : ∀ (l r : List α), l.Pairwise lt → r.Pairwise lt → (∀ x, x ∈ l ↔ x ∈ r) → l = r
  | [], [], _, _, _ => rfl
  | [], y :: r, _, _, h => by have := (h y).2 (by simp); simp at this
  | x :: l, [], _, _, h => by have := (h x).1 (by simp); simp at this
  | x :: l, y :: r, hl, hr, h => by
    obtain ⟨hx, hl'⟩ := List.pairwise_cons.1 hl
    obtain ⟨hy, hr'⟩ := List.pairwise_cons.1 hr
    have e : x = y := by
      rcases List.mem_cons.1 ((h x).1 (by simp)) with e | h1
      · exact e
      · rcases List.mem_cons.1 ((h y).2 (by simp)) with e | h2
        · exact e.symm
        · exact absurd (tr _ _ _ (hx y h2) (hy x h1)) (irr x)
    subst e
    rw [strict_one irr tr l r hl' hr' (fun z => ?_)]
    have hz := h z
    simp only [List.mem_cons] at hz
    constructor
    · intro hm
      rcases hz.1 (.inr hm) with e | h1
      · subst e; exact absurd (hx z hm) (irr z)
      · exact h1
    · intro hm
      rcases hz.2 (.inr hm) with e | h1
      · subst e; exact absurd (hy z hm) (irr z)
      · exact h1
theorem Sorts.one {l a b : List S37} (ha : Sorts l a) (hb : Sorts l b) : a = b :=
  strict_one ltP_irrefl (fun _ _ _ => ltP_trans) a b ha.1 hb.1 (fun x => (ha.2.1 x).trans (hb.2.1 x).symm)
theorem NormOf.one {f g g' : Ft} {pl pl' : List SPl} (h : NormOf f g pl) (h' : NormOf f g' pl') : g = g' := by
  have e : pl = pl' := strict_one ltL_irrefl (fun _ _ _ => ltL_trans) pl pl' h.sp h'.sp (fun x => (h.mp x).trans (h'.mp x).symm)
  subst e
  obtain ⟨q, hq, e1⟩ := h.ps
  obtain ⟨q', hq', e2⟩ := h'.ps
  rw [← hq.one hq'] at e2
  have e3 := h.ws.one h'.ws
  have e4 := h.ss.trans h'.ss.symm
  have e5 := e1.trans e2.symm
  cases g; cases g'
  simp_all
theorem NormR.one {f g g' : Ft} (h : NormR f g) (h' : NormR f g') : g = g' := by
  rcases h with ⟨h0, pl, h⟩ | ⟨h0, rfl⟩
  · rcases h' with ⟨_, pl', h'⟩ | ⟨h1, _⟩
    · exact h.one h'
    · exact absurd h0 h1
  · rcases h' with ⟨h1, _⟩ | ⟨_, rfl⟩
    · exact absurd h1 h0
    · rfl
theorem nodup_len {α : Type} [DecidableEq α] : ∀ (l L : List α), l.Nodup → (∀ x ∈ l, x ∈ L) → l.length ≤ L.length
  | [], _, _, _ => Nat.zero_le _
  | x :: l, L, hn, hs => by
    obtain ⟨h1, h2⟩ := List.nodup_cons.1 hn
    have hx := hs x (by simp)
    have := nodup_len l (L.erase x) h2 (fun y hy => (List.mem_erase_of_ne (fun e => h1 (by rw [← e]; exact hy))).2 (hs y (List.mem_cons_of_mem _ hy)))
    rw [List.length_erase_of_mem hx] at this
    have := List.length_pos_of_mem hx
    rw [List.length_cons]
    omega
theorem NormOf.pl_len {f g : Ft} {pl : List SPl} (h : NormOf f g pl) : pl.length ≤ f.ss.length := by
  have := nodup_len pl (f.ss.map plS) (h.sp.imp (fun hab e => by subst e; exact ltL_irrefl _ hab)) (fun p hp => by
    obtain ⟨s, hs, hb⟩ := List.any_eq_true.1 ((h.mp p).1 hp)
    exact List.mem_map.2 ⟨s, hs, (atP_iff s p).1 hb⟩)
  rwa [List.length_map] at this
/-- How long a normal foot is. -/
theorem NormOf.small {f g : Ft} {pl : List SPl} (h : NormOf f g pl) (hn : f.ps.length + f.ss.length + f.ws.length ≤ 65536) : g.small := by
  obtain ⟨q, hq, e⟩ := h.ps
  have h1 : g.ps.length ≤ f.ps.length := by rw [e]; exact Nat.le_trans (List.length_filter_le _ _) hq.2.2
  have h2 := h.ws.2.2
  have h3 := spans_len f.ss (by omega) pl (by have := h.pl_len; omega)
  rw [← h.ss] at h3
  exact ⟨by omega, by omega, by omega⟩
theorem NormR.small {f g : Ft} (h : NormR f g) : g.small := by
  rcases h with ⟨h0, pl, h⟩ | ⟨_, rfl⟩
  · exact h.small (check_len h0)
  · exact ⟨by decide, by decide, by decide⟩
end Go.Proofs.YtldlenjfpjihdaaGreat.PS
end
section
namespace Go.Proofs.YtldlenjfpjihdaaGreat.PS
open Go.Proofs.YtldlenjfpjihdaaGreat.PU (unionR hasR)
set_option linter.unusedSimpArgs false
set_option linter.unusedVariables false
theorem rangesAt_append (l m : List S46) (p : SPl) : rangesAt (l ++ m) p = rangesAt l p ++ rangesAt m p := by
  unfold rangesAt
  rw [List.filter_append, List.map_append]
theorem rangesAt_map (U : List S44) (q p : SPl) : rangesAt (U.map (fun r => (⟨q.f0, q.f1, r⟩ : S46))) p = if q = p then U else [] := by
  have e : ∀ r, atP (⟨q.f0, q.f1, r⟩ : S46) p = decide (q = p) := by
    intro r
    have := atP_iff (⟨q.f0, q.f1, r⟩ : S46) p
    by_cases h : q = p
    · rw [this.2 (by subst h; rfl)]; simp [h]
    · have hb : atP (⟨q.f0, q.f1, r⟩ : S46) p = false := by rw [← Bool.not_eq_true]; exact fun g => h (by rw [← this.1 g]; rfl)
      rw [hb]; simp [h]
  unfold rangesAt
  by_cases h : q = p
  · rw [if_pos h, List.filter_eq_self.2 (fun x hx => by obtain ⟨r, _, rfl⟩ := List.mem_map.1 hx; rw [e r]; simp [h])]
    simp [Function.comp_def]
  · rw [if_neg h, List.filter_eq_nil_iff.2 (fun x hx => by obtain ⟨r, _, rfl⟩ := List.mem_map.1 hx; rw [e r]; simp [h])]
    rfl
theorem rangesAt_flat (U : SPl → List S44) (p : SPl) : ∀ pl : List SPl, pl.Nodup → rangesAt (pl.flatMap fun q => (U q).map fun r => (⟨q.f0, q.f1, r⟩ : S46)) p = if p ∈ pl then U p else []
  | [], _ => by simp [rangesAt]
  | q :: pl, hn => by
    obtain ⟨h1, h2⟩ := List.nodup_cons.1 hn
    rw [List.flatMap_cons, rangesAt_append, rangesAt_map, rangesAt_flat U p pl h2]
    by_cases h : q = p
    · subst h
      rw [if_pos rfl, if_neg h1, if_pos (by simp), List.append_nil]
    · rw [if_neg h, List.nil_append]
      by_cases h3 : p ∈ pl
      · rw [if_pos h3, if_pos (by simp [h3])]
      · rw [if_neg h3, if_neg (by simp [h3, Ne.symm h])]
theorem rangesAt_none' {S : List S46} {p : SPl} (h : ¬ hasPl S p = true) : rangesAt S p = [] := by
  unfold rangesAt
  rw [List.filter_eq_nil_iff.2 (fun s hs g => h (List.any_eq_true.2 ⟨s, hs, g⟩))]
  rfl
theorem unionR_nil : unionR [] = [] := rfl
theorem ltL_nodup {pl : List SPl} (h : pl.Pairwise ltL) : pl.Nodup := h.imp (fun hab e => by subst e; exact ltL_irrefl _ hab)
theorem NormOf.at {f g : Ft} {pl : List SPl} (h : NormOf f g pl) (p : SPl) : rangesAt g.ss p = unionR (rangesAt f.ss p) := by
  rw [h.ss, rangesAt_flat _ p pl (ltL_nodup h.sp)]
  by_cases hp : p ∈ pl
  · rw [if_pos hp]
  · rw [if_neg hp, rangesAt_none' (fun g => hp ((h.mp p).2 g)), unionR_nil]
def Ft.app (f g : Ft) : Ft := ⟨f.ps ++ g.ps, f.ss ++ g.ss, f.ws ++ g.ws⟩
/-- Feet that say the same. -/
structure Eqv (f f' : Ft) : Prop where
  k : ∀ p k, (rangesAt f.ss p).any (hasR · k) = (rangesAt f'.ss p).any (hasR · k)
  p : ∀ x : S37, (rangesAt f.ss ⟨x.f0, x.f1⟩).any (hasR · (bs x.f2)) = false → (x ∈ f.ps ↔ x ∈ f'.ps)
  w : ∀ x, x ∈ f.ws ↔ x ∈ f'.ws
theorem Eqv.refl (f : Ft) : Eqv f f := ⟨fun _ _ => rfl, fun _ _ => Iff.rfl, fun _ => Iff.rfl⟩
theorem Eqv.symm {f g : Ft} (h : Eqv f g) : Eqv g f := ⟨fun p k => (h.k p k).symm, fun x hx => (h.p x (by rw [h.k]; exact hx)).symm, fun x => (h.w x).symm⟩
theorem Eqv.trans {f g i : Ft} (h : Eqv f g) (h' : Eqv g i) : Eqv f i := ⟨fun p k => (h.k p k).trans (h'.k p k), fun x hx => (h.p x hx).trans (h'.p x (by rw [← h.k]; exact hx)), fun x => (h.w x).trans (h'.w x)⟩
theorem Eqv.app {f f' g g' : Ft} (h : Eqv f f') (h' : Eqv g g') : Eqv (f.app g) (f'.app g') := by
  refine ⟨fun p k => ?_, fun x hx => ?_, fun x => ?_⟩
  · show (rangesAt (f.ss ++ g.ss) p).any _ = (rangesAt (f'.ss ++ g'.ss) p).any _
    rw [rangesAt_append, rangesAt_append, List.any_append, List.any_append, h.k, h'.k]
  · replace hx : (rangesAt (f.ss ++ g.ss) ⟨x.f0, x.f1⟩).any (hasR · (bs x.f2)) = false := hx
    rw [rangesAt_append, List.any_append, Bool.or_eq_false_iff] at hx
    show x ∈ f.ps ++ g.ps ↔ x ∈ f'.ps ++ g'.ps
    rw [List.mem_append, List.mem_append, h.p x hx.1, h'.p x hx.2]
  · show x ∈ f.ws ++ g.ws ↔ x ∈ f'.ws ++ g'.ws
    rw [List.mem_append, List.mem_append, h.w, h'.w]
theorem spans_eq (S : List S46) (p : S37) : S.any (spanB p) = (rangesAt S ⟨p.f0, p.f1⟩).any (hasR · (bs p.f2)) := by
  unfold rangesAt
  rw [List.any_map, List.any_filter]
  rfl
theorem Eqv.reads {f g : Ft} (h : Eqv f g) (x : S37) : readsS f.ps f.ss x = readsS g.ps g.ss x := by
  unfold readsS
  rw [spans_eq, spans_eq, ← h.k]
  cases hk : (rangesAt f.ss ⟨x.f0, x.f1⟩).any (hasR · (bs x.f2)) with
  | true => rw [Bool.or_true, Bool.or_true]
  | false =>
    rw [Bool.or_false, Bool.or_false, Bool.eq_iff_iff, List.any_eq_true, List.any_eq_true]
    have e := h.p x hk
    constructor
    · rintro ⟨y, hy, hb⟩
      have := (eqP_iff x y).1 hb
      subst this
      exact ⟨_, e.1 hy, hb⟩
    · rintro ⟨y, hy, hb⟩
      have := (eqP_iff x y).1 hb
      subst this
      exact ⟨_, e.2 hy, hb⟩
theorem flat_congr {α β : Type} {F G : α → List β} : ∀ (l : List α), (∀ x ∈ l, F x = G x) → l.flatMap F = l.flatMap G
  | [], _ => rfl
  | x :: l, h => by rw [List.flatMap_cons, List.flatMap_cons, h x (by simp), flat_congr l (fun y hy => h y (by simp [hy]))]
theorem part_len (S : List S46) : ∀ (pl : List SPl), pl.Nodup → ∀ S' : List S46, (pl.flatMap (fun p => S'.filter (atP · p))).length ≤ S'.length
  | [], _, S' => Nat.zero_le _
  | q :: pl, hn, S' => by
    obtain ⟨h1, h2⟩ := List.nodup_cons.1 hn
    have ih := part_len S pl h2 (S'.filter (fun s => !atP s q))
    have e : pl.flatMap (fun p => (S'.filter (fun s => !atP s q)).filter (atP · p)) = pl.flatMap (fun p => S'.filter (atP · p)) := by
      refine flat_congr pl (fun p hp => ?_)
      rw [List.filter_filter]
      refine List.filter_congr fun s _ => ?_
      cases hs : atP s p with
      | false => rfl
      | true =>
        cases hq : atP s q with
        | false => rfl
        | true => exact absurd (((atP_iff s q).1 hq).symm.trans ((atP_iff s p).1 hs)) (fun e => h1 (e ▸ hp))
    rw [e] at ih
    have h3 : S'.length = (S'.filter (atP · q)).length + (S'.filter (fun s => !atP s q)).length := by
      have := List.length_eq_countP_add_countP (l := S') (atP · q)
      rw [List.countP_eq_length_filter, List.countP_eq_length_filter] at this
      simpa using this
    rw [List.flatMap_cons, List.length_append]
    omega
theorem flat_le {α β γ : Type} (F : α → List β) (G : α → List γ) : ∀ l : List α, (∀ x, (F x).length ≤ (G x).length) → (l.flatMap F).length ≤ (l.flatMap G).length
  | [], _ => Nat.le_refl _
  | x :: l, h => by
    rw [List.flatMap_cons, List.flatMap_cons, List.length_append, List.length_append]
    exact Nat.add_le_add (h x) (flat_le F G l h)
theorem NormOf.len {f g : Ft} {pl : List SPl} (h : NormOf f g pl) : g.len ≤ f.len := by
  obtain ⟨q, hq, e⟩ := h.ps
  have h1 : g.ps.length ≤ f.ps.length := by rw [e]; exact Nat.le_trans (List.length_filter_le _ _) hq.2.2
  have h2 := h.ws.2.2
  have h3 : g.ss.length ≤ f.ss.length := by
    rw [h.ss]
    refine Nat.le_trans (flat_le _ (fun p => f.ss.filter (atP · p)) pl (fun p => ?_)) (part_len f.ss pl (ltL_nodup h.sp) f.ss)
    rw [List.length_map]
    refine Nat.le_trans (unionR_len _) ?_
    unfold rangesAt
    rw [List.length_map]
    exact Nat.le_refl _
  unfold Ft.len
  omega
theorem NormOf.from_ {f g : Ft} {pl : List SPl} (h : NormOf f g pl) : (∀ x ∈ g.ps, x ∈ f.ps) ∧ (∀ x ∈ g.ss, ∃ y ∈ f.ss, plS y = plS x) ∧ (∀ x ∈ g.ws, x ∈ f.ws) := by
  obtain ⟨q, hq, e⟩ := h.ps
  refine ⟨fun x hx => ?_, fun x hx => ?_, fun x hx => (h.ws.2.1 x).1 hx⟩
  · rw [e] at hx
    exact (hq.2.1 x).1 (List.mem_filter.1 hx).1
  · rw [h.ss] at hx
    obtain ⟨p, hp, hx⟩ := List.mem_flatMap.1 hx
    obtain ⟨r, _, rfl⟩ := List.mem_map.1 hx
    obtain ⟨y, hy, hb⟩ := List.any_eq_true.1 ((h.mp p).1 hp)
    exact ⟨y, hy, (atP_iff y p).1 hb⟩
theorem NormOf.wfs {f g : Ft} {pl : List SPl} (h : NormOf f g pl) (hw : f.wfs) : g.wfs := by
  obtain ⟨h1, h2, h3⟩ := h.from_
  refine ⟨⟨fun x hx => hw.1.1 x (h1 x hx), fun x hx => hw.1.2 x (h3 x hx)⟩, fun x hx => ?_⟩
  obtain ⟨y, hy, e⟩ := h2 x hx
  rw [← e]
  exact hw.2 y hy
theorem nil_wfs : Ft.nil.wfs := by unfold Ft.wfs Ft.wf Ft.nil; simp
theorem NormR.wfs {f g : Ft} (h : NormR f g) (hw : f.wfs) : g.wfs := by
  rcases h with ⟨h0, pl, h⟩ | ⟨_, rfl⟩
  · exact h.wfs hw
  · exact nil_wfs
def mergeC (f g : Ft) : Int := if checkS f ≠ 0 then checkS f else if checkS g ≠ 0 then checkS g else if f.len + g.len > 65536 then 2 else 0
def MergeR (f g h : Ft) : Prop := (mergeC f g = 0 ∧ ∃ pl, NormOf (f.app g) h pl) ∨ (mergeC f g ≠ 0 ∧ h = Ft.nil)
theorem merge_ok {f g : Ft} (h : mergeC f g = 0) : checkS f = 0 ∧ checkS g = 0 ∧ f.len + g.len ≤ 65536 := by
  unfold mergeC at h
  by_cases h1 : checkS f ≠ 0
  · rw [if_pos h1] at h; exact absurd h h1
  · rw [if_neg h1] at h
    by_cases h2 : checkS g ≠ 0
    · rw [if_pos h2] at h; exact absurd h h2
    · rw [if_neg h2] at h
      by_cases h3 : f.len + g.len > 65536
      · rw [if_pos h3] at h; cases h
      · exact ⟨Decidable.byContradiction h1, Decidable.byContradiction h2, Nat.le_of_not_lt h3⟩
theorem app_len {f g : Ft} (h : f.len + g.len ≤ 65536) : (f.app g).ps.length + (f.app g).ss.length + (f.app g).ws.length ≤ 65536 := by
  unfold Ft.app
  unfold Ft.len at h
  simp only [List.length_append]
  omega
theorem app_wfs {f g : Ft} (h : f.wfs) (h' : g.wfs) : (f.app g).wfs := by
  refine ⟨⟨fun x hx => ?_, fun x hx => ?_⟩, fun x hx => ?_⟩
  · rcases List.mem_append.1 hx with m | m
    · exact h.1.1 x m
    · exact h'.1.1 x m
  · rcases List.mem_append.1 hx with m | m
    · exact h.1.2 x m
    · exact h'.1.2 x m
  · rcases List.mem_append.1 hx with m | m
    · exact h.2 x m
    · exact h'.2 x m
theorem MergeR.one {f g h h' : Ft} (a : MergeR f g h) (b : MergeR f g h') : h = h' := by
  rcases a with ⟨h0, pl, a⟩ | ⟨h0, rfl⟩
  · rcases b with ⟨_, pl', b⟩ | ⟨h1, _⟩
    · exact a.one b
    · exact absurd h0 h1
  · rcases b with ⟨h1, _⟩ | ⟨_, rfl⟩
    · exact absurd h1 h0
    · rfl
theorem MergeR.small {f g h : Ft} (a : MergeR f g h) : h.small := by
  rcases a with ⟨h0, pl, a⟩ | ⟨_, rfl⟩
  · exact a.small (app_len (merge_ok h0).2.2)
  · exact ⟨by decide, by decide, by decide⟩
theorem MergeR.wfs {f g h : Ft} (a : MergeR f g h) (hf : f.wfs) (hg : g.wfs) : h.wfs := by
  rcases a with ⟨h0, pl, a⟩ | ⟨_, rfl⟩
  · exact a.wfs (app_wfs hf hg)
  · exact nil_wfs
end Go.Proofs.YtldlenjfpjihdaaGreat.PS
end
section
namespace Go.Proofs
open Go.Shelf
def Tryz.growP_ren : Go.Shelf.Ren := ⟨fun | 4 => 61 | n => n, fun | 22 => 22 | 25 => 37 | 3 => 3 | 4 => 4 | 9 => 9 | 20 => 20 | 0 => 0 | n => n, fun | n => n⟩
theorem Tryz.growP : Go.Proofs.Lays8.n4 Tryz.prog Tryz.growP_ren := {
  mixed := by kernel_rfl
  f4 := ⟨Tryz.f61.name, by decide, Tryz.func61.trans (congrArg some (by kernel_rfl))⟩
  t0 := Tryz.underlying0
  a0 := Tryz.isAgg0
  z0 := Tryz.sizeOf0
  v0 := Tryz.zeroValue0
  t3 := Tryz.underlying3
  a3 := Tryz.isAgg3
  z3 := Tryz.sizeOf3
  v3 := Tryz.zeroValue3
  t4 := Tryz.underlying4
  a4 := Tryz.isAgg4
  z4 := Tryz.sizeOf4
  v4 := Tryz.zeroValue4
  t9 := Tryz.underlying9
  a9 := Tryz.isAgg9
  z9 := Tryz.sizeOf9
  v9 := Tryz.zeroValue9
  t20 := Tryz.underlying20
  a20 := Tryz.isAgg20
  z20 := Tryz.sizeOf20
  v20 := Tryz.zeroValue20
  t22 := Tryz.underlying22
  a22 := Tryz.isAgg22
  z22 := Tryz.sizeOf22
  v22 := Tryz.zeroValue22 }
def Tryz.growS_ren : Go.Shelf.Ren := ⟨fun | 4 => 62 | n => n, fun | 22 => 23 | 25 => 46 | 3 => 3 | 4 => 4 | 9 => 9 | 20 => 20 | 0 => 0 | n => n, fun | n => n⟩
theorem Tryz.growS : Go.Proofs.Lays8.n4 Tryz.prog Tryz.growS_ren := {
  mixed := by kernel_rfl
  f4 := ⟨Tryz.f62.name, by decide, Tryz.func62.trans (congrArg some (by kernel_rfl))⟩
  t0 := Tryz.underlying0
  a0 := Tryz.isAgg0
  z0 := Tryz.sizeOf0
  v0 := Tryz.zeroValue0
  t3 := Tryz.underlying3
  a3 := Tryz.isAgg3
  z3 := Tryz.sizeOf3
  v3 := Tryz.zeroValue3
  t4 := Tryz.underlying4
  a4 := Tryz.isAgg4
  z4 := Tryz.sizeOf4
  v4 := Tryz.zeroValue4
  t9 := Tryz.underlying9
  a9 := Tryz.isAgg9
  z9 := Tryz.sizeOf9
  v9 := Tryz.zeroValue9
  t20 := Tryz.underlying20
  a20 := Tryz.isAgg20
  z20 := Tryz.sizeOf20
  v20 := Tryz.zeroValue20
  t22 := Tryz.underlying23
  a22 := Tryz.isAgg23
  z22 := Tryz.sizeOf23
  v22 := Tryz.zeroValue23 }
end Go.Proofs
end
section
namespace Go.Proofs.YtldlenjfpjihdaaGreat.PS
open Go Go.RowKit Go.Proofs Go.Shelf Go.Proofs.YtldlenjfpjihdaaGreatW.PrintWords Go.Proofs.YtldlenjfpjihdaaGreatW.PrintLast Go.Proofs.YtldlenjfpjihdaaGreatW.PrintMore
set_option linter.unusedVariables false
set_option linter.unusedSimpArgs false
theorem reps_app {α : Type} {R : α → List Value → Prop} {C : Nat} {xs ys : List α} {l m : List Value} (h : Reps R C xs l) (h' : Reps R C ys m) : Reps R C (xs ++ ys) (l ++ m) := by
  refine ⟨by rw [List.length_append, List.length_append, h.1, h'.1, Nat.add_mul], fun j p hj => ?_⟩
  by_cases hlt : j < xs.length
  · rw [List.getElem?_append_left hlt] at hj
    have := h.2 j p hj
    have hle : j * C + C ≤ l.length := by rw [h.1, ← Nat.succ_mul]; exact Nat.mul_le_mul_right C hlt
    rwa [List.drop_append_of_le_length (by omega), List.take_append_of_le_length (by rw [List.length_drop]; omega)]
  · rw [List.getElem?_append_right (by omega)] at hj
    have := h'.2 _ p hj
    have e : j * C = l.length + (j - xs.length) * C := by rw [h.1, ← Nat.add_mul]; congr 1; omega
    rw [e, List.drop_append, List.drop_eq_nil_of_le (by omega), List.nil_append, show l.length + (j - xs.length) * C - l.length = (j - xs.length) * C by omega]
    exact this
theorem run_app_none37 {w : World} {base : Nat} (ty c : Nat) (v : Value) (n : Nat) (xs : List Value) (hown : w.ownsRow base 37 3 v n xs) : (Builtin.append_ #[22, 22] ty #[v, .slice none 0 c]).run Tryz.prog w = .ok v w := by
  obtain ⟨i0, hi, hz0, hz1, hz2⟩ := info_parts info37U
  rcases hown.2 with ⟨rfl, rfl⟩ | ⟨g, cap, cur, rfl, _, _, hnc, _⟩
  · simp [Builtin.append_, run_underlying Tryz.underlying22, sizeOf, typeInfo, hi, Builtin.lenOf, Builtin.firstCells]
  · simp [Builtin.append_, run_underlying Tryz.underlying22, sizeOf, typeInfo, hi, Builtin.lenOf, Builtin.firstCells, hnc, storeCells]
theorem inner_one37 {w : World} {xs : List S37} {inner : List Value} (hrep : Reps (k37.K w) 3 xs inner) : ∀ u ∈ inner, u.oneCell' = true := by
  intro u hu
  obtain ⟨t, ht, e⟩ := List.getElem_of_mem hu
  have hlen := hrep.1
  have hk : t / 3 < xs.length := by omega
  have hK := k37_open (hrep.2 (t / 3) _ (List.getElem?_eq_getElem hk))
  have e1 : ((inner.drop (t / 3 * 3)).take 3)[t % 3]? = some u := by rw [List.getElem?_take, if_pos (by omega), List.getElem?_drop, show t / 3 * 3 + t % 3 = t by omega, List.getElem?_eq_getElem ht, e]
  rw [hK] at e1
  have h3 : t % 3 = 0 ∨ t % 3 = 1 ∨ t % 3 = 2 := by omega
  rcases h3 with q | q | q <;> rw [q] at e1 <;> (obtain rfl := Option.some.inj e1) <;> rfl
/-- append(v, xs...). -/
theorem cat37 {ops : Array Oper} {rest : List Oper} {o : Oper} {a : Act} {Q : Exit → Act → World → Prop} (w : World) (hgd : o.guard = none) (s x : Operand) (ho : o.op = .call { callee := .builtin .append, args := #[s, x], argTypes := #[22, 22] })
    (base : Nat) (v : Value) (zs xs : List S37) (A : Option Addr) (c : Nat) (hs : a.eval s = v) (hx : a.eval x = .slice A xs.length c) (HR : Kd.R k37 37 w base (fun _ => True) v zs) (HC : Kd.C k37 w A xs.length xs) (hl : (zs.length + xs.length) * 32 ≤ 140737488355328) (hbase : base ≤ w.heap.size)
    (h : ∀ v' w', Kd.R k37 37 w' base (fun _ => True) v' (zs ++ xs) → w.grownBy w' v.ownBlock → wpList Tryz.prog ops Q rest (a.put o.dst v') w') : wpList Tryz.prog ops Q (o :: rest) a w := by
  obtain ⟨h0, inner0, ⟨hln, hor⟩, hr0⟩ := id HR
  replace hr0 : Reps _ 3 zs inner0 := hr0
  have hown : w.ownsRow base 37 3 v zs.length inner0 := ⟨hln, hor⟩
  obtain ⟨i0, hi, hz0, hz1, hz2⟩ := info_parts info37U
  cases A with
  | none =>
    have hx0 : xs = [] := by
      cases hxs : xs with
      | nil => rfl
      | cons y r => obtain ⟨ad, e, _⟩ := HC.2.2 (by rw [hxs]; simp); cases e
    subst hx0
    rw [List.append_nil] at h
    refine wpList_plain hgd fun K hK => ?_
    have hrun := run_app_none37 (w := w) o.type c v _ _ hown
    unfold Oper.wp
    simp only [List.length_nil] at hx
    simp [execOp, ho, resolve, invoke, builtin, hs, hx, hrun, Result.andThen]
    exact hK _ _ (h v w HR ⟨rfl, rfl, rfl, Nat.le_refl _, fun _ _ _ => rfl⟩)
  | some ad =>
    obtain ⟨inner, hrep, hcells⟩ := ReadsRow.inner_ HC
    replace hrep : Reps (k37.K w) 3 xs inner := hrep
    refine wpList_append_own w hgd s x 22 ho base 37 i0 (.agg #[.int .i64 0, .int .i64 0, .string (⟨#[]⟩ : ByteArray)]) 3 32 Tryz.underlying22 hi hz0 hz1 hz2 rfl (by decide) v zs.length inner0 hs hown ad xs.length c inner hx hrep.1 hcells (inner_one37 hrep) (by unfold maxLen; omega) hl hbase ?_
    intro v' w' hown' hg hnil
    refine h v' w' ⟨fun _ _ => trivial, inner0 ++ inner, by rw [List.length_append]; exact hown', ?_⟩ hg
    exact reps_app (hr0.imp_ fun p cs hp => by rw [k37_openM hp]; exact k37_mkM _ _ _ p) (hrep.imp_ fun p cs hp => by rw [k37_open hp]; exact k37_mkM _ _ _ p)
theorem grow37 (n : Nat) (hn : n * 32 ≤ 140737488355328) (w : World) : Calls Tryz.prog 61 #[.slice none 0 0, .int .i64 n] w fun e w' => ∃ v, e = .returned v ∧ Kd.R k37 37 w' w.heap.size (fun _ => True) v [] ∧ Below w.heap.size w w' := by
  by_cases h : n = 0
  · subst h
    refine (Any8.slices_Grow_room Tryz.growP none 0 0 0 w (Nat.le_refl _) (by omega) (by omega) (Nat.le_refl _)).mono ?_
    rintro e w' ⟨rfl, rfl⟩
    exact ⟨_, rfl, Kd.R_nil k37 37 w' _ (fun _ => True), Below.refl _ _⟩
  · obtain ⟨i0, hi, hz0, hz1, hz2⟩ := info_parts info37U
    refine (Any8.slices_Grow_grow Tryz.growP i0 _ hi hz0 (by omega) none 0 0 n [] w (Nat.le_refl _) (by omega) (by rw [hz2]; omega) (by omega) (by simp) (fun _ => rfl) (fun a ha => by cases ha)).mono ?_
    rintro e w' ⟨rfl, rfl⟩
    have hb := below_alloc (below_drew1 (Below.refl w.heap.size w)) (.cells ([].toArray ++ Builtin.zeroCells (Value.agg #[.int .i64 0, .int .i64 0, .string (⟨#[]⟩ : ByteArray)]).cells (0 + n - 0) ++ Builtin.zeroCells (Value.agg #[.int .i64 0, .int .i64 0, .string (⟨#[]⟩ : ByteArray)]).cells (grownCap w (0 + n) 0 37 - (0 + n))) 37)
    have hge := grownCap_ge w (0 + n) 0 37
    have hle := grownCap_le_maxLen w (0 + n) 0 37 (by unfold maxLen; omega)
    refine ⟨_, rfl, ⟨fun _ _ => trivial, [], ⟨rfl, .inr ⟨w.heap.size, _, _, rfl, Nat.le_refl _, heap_new w.drew _, Nat.zero_le _, hle, ?_, rfl⟩⟩, ⟨rfl, fun j p hp => by simp at hp⟩⟩, hb⟩
    show (_ : Array Value).size = grownCap w (0 + n) 0 37 * 3
    simp only [Nat.zero_add] at hge ⊢
    simp [Builtin.zeroCells, Value.cells]
    show n * 3 + (grownCap w n 0 37 - n) * 3 = grownCap w n 0 37 * 3
    omega
set_option maxHeartbeats 4000000 in
set_option maxRecDepth 100000 in
theorem concat37 (xs ys : List S37) (A B : Option Addr) (c d : Nat) (g : Nat) (w : World) (hA : Kd.C k37 w A xs.length xs) (hB : Kd.C k37 w B ys.length ys) (hl : (xs.length + ys.length) * 32 ≤ 140737488351232)
    (hg : w.heap[g]? = some (.cells #[.slice A xs.length c, .slice B ys.length d] 22 (0, 0))) :
    Calls Tryz.prog 32 #[.slice (some ⟨g, 0, none⟩) 2 2] w fun e w' => ∃ v, e = .returned v ∧ Kd.R k37 37 w' w.heap.size (fun _ => True) v (xs ++ ys) ∧ Below w.heap.size w w' := by
  have p0 : w.cell? ⟨g, 0, none⟩ = some (.slice A xs.length c) := cell_of hg 0
  have p1 : w.cell? ⟨g, 1, none⟩ = some (.slice B ys.length d) := cell_of hg 1
  have hlt := lt_of hg
  obtain ⟨i0, hi, hz0, hz1, hz2⟩ := info_parts info37U
  have hgr := grow37 (xs.length + ys.length) (by omega) w
  rw [Int.natCast_add] at hgr
  have HGr := Aside0.mk hgr
  have HA := Aside0.mk hA
  have HB := Aside0.mk hB
  have HG := Aside0.mk hg
  have hn0 : (xs.length : Int) ≤ 4398046511103 := by omega
  have hn1 : (ys.length : Int) ≤ 4398046511103 := by omega
  have hn2 : (xs.length : Int) + (ys.length : Int) ≤ 4398046511103 := by omega
  have HL := Aside0.mk hl
  clear hgr hA hB hg hl
  go_enter Tryz.func32, Tryz.ntmps32
  go_wp2
  --@A
  go_loopg [3, 11] 2 (fun gg s3 s11 wr => ∃ k : Nat, s11 = .int .i64 k ∧ wr = w ∧ Aside0 (2 - k ≤ gg) ∧ ((k = 0 ∧ s3 = .int .i64 0) ∨ (k = 1 ∧ s3 = .int .i64 xs.length) ∨ (k = 2 ∧ s3 = .int .i64 ((xs.length : Int) + (ys.length : Int)))))
  case atStart => exact ⟨0, rfl, rfl, ⟨Nat.le_refl _⟩, .inl ⟨rfl, rfl⟩⟩
  case round =>
    obtain ⟨k, rfl, rfl, HM, ⟨rfl, rfl⟩ | ⟨rfl, rfl⟩ | ⟨rfl, rfl⟩⟩ := hrel
    · go_wp2
      go_roundg 1
      case measure => have := HM.out; omega
      case rel => exact ⟨1, by go_num, rfl, ⟨Nat.le_refl _⟩, .inr (.inl ⟨rfl, by go_num⟩)⟩
    · go_wp2
      go_roundg 0
      case measure => have := HM.out; omega
      case rel => exact ⟨2, by go_num, rfl, ⟨Nat.le_refl _⟩, .inr (.inr ⟨rfl, by go_num⟩)⟩
    · --@B
      obtain ⟨wq, hwq⟩ : ∃ x, x = wr := ⟨_, rfl⟩
      subst hwq
      go_wp2_with (go_at_call 61; refine HGr.out.mono ?_; rintro e w2 ⟨v, rfl, hR, hb⟩; have HR := Aside0.mk hR; have HB2 := Aside0.mk hb; have q0 := (hb.cell (World.block_lt_of_cell? _ _ p0)).trans p0; have q1 := (hb.cell (World.block_lt_of_cell? _ _ p1)).trans p1; clear hR hb)
      --@C
      go_loopg [6, 27] 2 (fun gg s6 s27 w3 => ∃ (k : Nat) (zs : List S37), s27 = .int .i64 k ∧ Aside0 (2 - k ≤ gg) ∧ ((k = 0 ∧ zs = []) ∨ (k = 1 ∧ zs = xs) ∨ (k = 2 ∧ zs = xs ++ ys)) ∧ Aside0 (Kd.R k37 37 w3 wq.heap.size (fun _ => True) s6 zs) ∧ Aside0 (Below wq.heap.size wq w3))
      case atStart => exact ⟨0, [], rfl, ⟨Nat.le_refl _⟩, .inl ⟨rfl, rfl⟩, HR, HB2⟩
      case round =>
        clear HR HB2 q0 q1
        obtain ⟨wq3, hw3⟩ : ∃ x, x = wr := ⟨_, rfl⟩
        subst hw3
        obtain ⟨k, zs, rfl, HM2, ⟨rfl, rfl⟩ | ⟨rfl, rfl⟩ | ⟨rfl, rfl⟩, HR, HB2⟩ := hrel
        · have q0 := (HB2.out.cell (World.block_lt_of_cell? _ _ p0)).trans p0
          --@D
          go_wp2_with ((with_reducible refine gate_builtin (b := .append) (xs := #[.tmp 31, .tmp 32]) rfl ?_); at_builtin; (refine cat37 wq3 rfl (.tmp 31) (.tmp 32) rfl wq.heap.size u6 [] xs A c rfl rfl HR.out (Kd.C_below HA.out HB2.out) (by have := HL.out; rw [List.length_nil]; omega) HB2.out.size ?_); intro v' w4 hR' hg'; have HR4 := Aside0.mk hR'; have HB4 := Aside0.mk (HB2.out.grown hg' HB2.out.size (fun k e => Kd.R_base HR.out k e)); clear hR' hg')
          go_roundg 1
          case measure => have := HM2.out; omega
          case rel => exact ⟨1, _, by go_num, ⟨Nat.le_refl _⟩, .inr (.inl ⟨rfl, rfl⟩), HR4, HB4⟩
        · have q1 := (HB2.out.cell (World.block_lt_of_cell? _ _ p1)).trans p1
          go_wp2_with ((with_reducible refine gate_builtin (b := .append) (xs := #[.tmp 31, .tmp 32]) rfl ?_); at_builtin; (refine cat37 wq3 rfl (.tmp 31) (.tmp 32) rfl wq.heap.size u6 zs ys B d rfl rfl HR.out (Kd.C_below HB.out HB2.out) (by have := HL.out; omega) HB2.out.size ?_); intro v' w4 hR' hg'; have HR4 := Aside0.mk hR'; have HB4 := Aside0.mk (HB2.out.grown hg' HB2.out.size (fun k e => Kd.R_base HR.out k e)); clear hR' hg')
          go_roundg 0
          case measure => have := HM2.out; omega
          case rel => exact ⟨2, _, by go_num, ⟨Nat.le_refl _⟩, .inr (.inr ⟨rfl, rfl⟩), HR4, HB4⟩
        · go_wp2
          go_ret
          exact ⟨_, rfl, HR.out, HB2.out⟩
theorem run_app_none46 {w : World} {base : Nat} (ty c : Nat) (v : Value) (n : Nat) (xs : List Value) (hown : w.ownsRow base 46 5 v n xs) : (Builtin.append_ #[23, 23] ty #[v, .slice none 0 c]).run Tryz.prog w = .ok v w := by
  obtain ⟨i0, hi, hz0, hz1, hz2⟩ := info_parts info46U
  rcases hown.2 with ⟨rfl, rfl⟩ | ⟨g, cap, cur, rfl, _, _, hnc, _⟩
  · simp [Builtin.append_, run_underlying Tryz.underlying23, sizeOf, typeInfo, hi, Builtin.lenOf, Builtin.firstCells]
  · simp [Builtin.append_, run_underlying Tryz.underlying23, sizeOf, typeInfo, hi, Builtin.lenOf, Builtin.firstCells, hnc, storeCells]
theorem inner_one46 {w : World} {xs : List S46} {inner : List Value} (hrep : Reps (k46.K w) 5 xs inner) : ∀ u ∈ inner, u.oneCell' = true := by
  intro u hu
  obtain ⟨t, ht, e⟩ := List.getElem_of_mem hu
  have hlen := hrep.1
  have hk : t / 5 < xs.length := by omega
  have hK := k46_open (hrep.2 (t / 5) _ (List.getElem?_eq_getElem hk))
  have e1 : ((inner.drop (t / 5 * 5)).take 5)[t % 5]? = some u := by rw [List.getElem?_take, if_pos (by omega), List.getElem?_drop, show t / 5 * 5 + t % 5 = t by omega, List.getElem?_eq_getElem ht, e]
  rw [hK] at e1
  have h3 : t % 5 = 0 ∨ t % 5 = 1 ∨ t % 5 = 2 ∨ t % 5 = 3 ∨ t % 5 = 4 := by omega
  rcases h3 with q | q | q | q | q <;> rw [q] at e1 <;> (obtain rfl := Option.some.inj e1) <;> rfl
/-- append(v, xs...). -/
theorem cat46 {ops : Array Oper} {rest : List Oper} {o : Oper} {a : Act} {Q : Exit → Act → World → Prop} (w : World) (hgd : o.guard = none) (s x : Operand) (ho : o.op = .call { callee := .builtin .append, args := #[s, x], argTypes := #[23, 23] })
    (base : Nat) (v : Value) (zs xs : List S46) (A : Option Addr) (c : Nat) (hs : a.eval s = v) (hx : a.eval x = .slice A xs.length c) (HR : Kd.R k46 46 w base (fun _ => True) v zs) (HC : Kd.C k46 w A xs.length xs) (hl : (zs.length + xs.length) * 56 ≤ 140737488355328) (hbase : base ≤ w.heap.size)
    (h : ∀ v' w', Kd.R k46 46 w' base (fun _ => True) v' (zs ++ xs) → w.grownBy w' v.ownBlock → wpList Tryz.prog ops Q rest (a.put o.dst v') w') : wpList Tryz.prog ops Q (o :: rest) a w := by
  obtain ⟨h0, inner0, ⟨hln, hor⟩, hr0⟩ := id HR
  replace hr0 : Reps _ 5 zs inner0 := hr0
  have hown : w.ownsRow base 46 5 v zs.length inner0 := ⟨hln, hor⟩
  obtain ⟨i0, hi, hz0, hz1, hz2⟩ := info_parts info46U
  cases A with
  | none =>
    have hx0 : xs = [] := by
      cases hxs : xs with
      | nil => rfl
      | cons y r => obtain ⟨ad, e, _⟩ := HC.2.2 (by rw [hxs]; simp); cases e
    subst hx0
    rw [List.append_nil] at h
    refine wpList_plain hgd fun K hK => ?_
    have hrun := run_app_none46 (w := w) o.type c v _ _ hown
    unfold Oper.wp
    simp only [List.length_nil] at hx
    simp [execOp, ho, resolve, invoke, builtin, hs, hx, hrun, Result.andThen]
    exact hK _ _ (h v w HR ⟨rfl, rfl, rfl, Nat.le_refl _, fun _ _ _ => rfl⟩)
  | some ad =>
    obtain ⟨inner, hrep, hcells⟩ := ReadsRow.inner_ HC
    replace hrep : Reps (k46.K w) 5 xs inner := hrep
    refine wpList_append_own w hgd s x 23 ho base 46 i0 (.agg #[(.int .i64 0), (.int .i64 0), (.string (⟨#[]⟩ : ByteArray)), (.string (⟨#[]⟩ : ByteArray)), (.bool false)]) 5 56 Tryz.underlying23 hi hz0 hz1 hz2 rfl (by decide) v zs.length inner0 hs hown ad xs.length c inner hx hrep.1 hcells (inner_one46 hrep) (by unfold maxLen; omega) hl hbase ?_
    intro v' w' hown' hg hnil
    refine h v' w' ⟨fun _ _ => trivial, inner0 ++ inner, by rw [List.length_append]; exact hown', ?_⟩ hg
    exact reps_app (hr0.imp_ fun p cs hp => by rw [k46_openM hp]; exact k46_mkM _ _ _ p) (hrep.imp_ fun p cs hp => by rw [k46_open hp]; exact k46_mkM _ _ _ p)
theorem grow46 (n : Nat) (hn : n * 56 ≤ 140737488355328) (w : World) : Calls Tryz.prog 62 #[.slice none 0 0, .int .i64 n] w fun e w' => ∃ v, e = .returned v ∧ Kd.R k46 46 w' w.heap.size (fun _ => True) v [] ∧ Below w.heap.size w w' := by
  by_cases h : n = 0
  · subst h
    refine (Any8.slices_Grow_room Tryz.growS none 0 0 0 w (Nat.le_refl _) (by omega) (by omega) (Nat.le_refl _)).mono ?_
    rintro e w' ⟨rfl, rfl⟩
    exact ⟨_, rfl, Kd.R_nil k46 46 w' _ (fun _ => True), Below.refl _ _⟩
  · obtain ⟨i0, hi, hz0, hz1, hz2⟩ := info_parts info46U
    refine (Any8.slices_Grow_grow Tryz.growS i0 _ hi hz0 (by omega) none 0 0 n [] w (Nat.le_refl _) (by omega) (by rw [hz2]; omega) (by omega) (by simp) (fun _ => rfl) (fun a ha => by cases ha)).mono ?_
    rintro e w' ⟨rfl, rfl⟩
    have hb := below_alloc (below_drew1 (Below.refl w.heap.size w)) (.cells ([].toArray ++ Builtin.zeroCells (Value.agg #[(.int .i64 0), (.int .i64 0), (.string (⟨#[]⟩ : ByteArray)), (.string (⟨#[]⟩ : ByteArray)), (.bool false)]).cells (0 + n - 0) ++ Builtin.zeroCells (Value.agg #[(.int .i64 0), (.int .i64 0), (.string (⟨#[]⟩ : ByteArray)), (.string (⟨#[]⟩ : ByteArray)), (.bool false)]).cells (grownCap w (0 + n) 0 46 - (0 + n))) 46)
    have hge := grownCap_ge w (0 + n) 0 46
    have hle := grownCap_le_maxLen w (0 + n) 0 46 (by unfold maxLen; omega)
    refine ⟨_, rfl, ⟨fun _ _ => trivial, [], ⟨rfl, .inr ⟨w.heap.size, _, _, rfl, Nat.le_refl _, heap_new w.drew _, Nat.zero_le _, hle, ?_, rfl⟩⟩, ⟨rfl, fun j p hp => by simp at hp⟩⟩, hb⟩
    show (_ : Array Value).size = grownCap w (0 + n) 0 46 * 5
    simp only [Nat.zero_add] at hge ⊢
    simp [Builtin.zeroCells, Value.cells]
    show n * 5 + (grownCap w n 0 46 - n) * 5 = grownCap w n 0 46 * 5
    omega
set_option maxHeartbeats 4000000 in
set_option maxRecDepth 100000 in
theorem concat46 (xs ys : List S46) (A B : Option Addr) (c d : Nat) (g : Nat) (w : World) (hA : Kd.C k46 w A xs.length xs) (hB : Kd.C k46 w B ys.length ys) (hl : (xs.length + ys.length) * 56 ≤ 140737488351232)
    (hg : w.heap[g]? = some (.cells #[.slice A xs.length c, .slice B ys.length d] 23 (0, 0))) :
    Calls Tryz.prog 33 #[.slice (some ⟨g, 0, none⟩) 2 2] w fun e w' => ∃ v, e = .returned v ∧ Kd.R k46 46 w' w.heap.size (fun _ => True) v (xs ++ ys) ∧ Below w.heap.size w w' := by
  have p0 : w.cell? ⟨g, 0, none⟩ = some (.slice A xs.length c) := cell_of hg 0
  have p1 : w.cell? ⟨g, 1, none⟩ = some (.slice B ys.length d) := cell_of hg 1
  have hlt := lt_of hg
  obtain ⟨i0, hi, hz0, hz1, hz2⟩ := info_parts info46U
  have hgr := grow46 (xs.length + ys.length) (by omega) w
  rw [Int.natCast_add] at hgr
  have HGr := Aside0.mk hgr
  have HA := Aside0.mk hA
  have HB := Aside0.mk hB
  have HG := Aside0.mk hg
  have hn0 : (xs.length : Int) ≤ 4398046511103 := by omega
  have hn1 : (ys.length : Int) ≤ 4398046511103 := by omega
  have hn2 : (xs.length : Int) + (ys.length : Int) ≤ 4398046511103 := by omega
  have HL := Aside0.mk hl
  clear hgr hA hB hg hl
  go_enter Tryz.func33, Tryz.ntmps33
  go_wp2
  --@A
  go_loopg [3, 11] 2 (fun gg s3 s11 wr => ∃ k : Nat, s11 = .int .i64 k ∧ wr = w ∧ Aside0 (2 - k ≤ gg) ∧ ((k = 0 ∧ s3 = .int .i64 0) ∨ (k = 1 ∧ s3 = .int .i64 xs.length) ∨ (k = 2 ∧ s3 = .int .i64 ((xs.length : Int) + (ys.length : Int)))))
  case atStart => exact ⟨0, rfl, rfl, ⟨Nat.le_refl _⟩, .inl ⟨rfl, rfl⟩⟩
  case round =>
    obtain ⟨k, rfl, rfl, HM, ⟨rfl, rfl⟩ | ⟨rfl, rfl⟩ | ⟨rfl, rfl⟩⟩ := hrel
    · go_wp2
      go_roundg 1
      case measure => have := HM.out; omega
      case rel => exact ⟨1, by go_num, rfl, ⟨Nat.le_refl _⟩, .inr (.inl ⟨rfl, by go_num⟩)⟩
    · go_wp2
      go_roundg 0
      case measure => have := HM.out; omega
      case rel => exact ⟨2, by go_num, rfl, ⟨Nat.le_refl _⟩, .inr (.inr ⟨rfl, by go_num⟩)⟩
    · --@B
      obtain ⟨wq, hwq⟩ : ∃ x, x = wr := ⟨_, rfl⟩
      subst hwq
      go_wp2_with (go_at_call 62; refine HGr.out.mono ?_; rintro e w2 ⟨v, rfl, hR, hb⟩; have HR := Aside0.mk hR; have HB2 := Aside0.mk hb; have q0 := (hb.cell (World.block_lt_of_cell? _ _ p0)).trans p0; have q1 := (hb.cell (World.block_lt_of_cell? _ _ p1)).trans p1; clear hR hb)
      --@C
      go_loopg [6, 27] 2 (fun gg s6 s27 w3 => ∃ (k : Nat) (zs : List S46), s27 = .int .i64 k ∧ Aside0 (2 - k ≤ gg) ∧ ((k = 0 ∧ zs = []) ∨ (k = 1 ∧ zs = xs) ∨ (k = 2 ∧ zs = xs ++ ys)) ∧ Aside0 (Kd.R k46 46 w3 wq.heap.size (fun _ => True) s6 zs) ∧ Aside0 (Below wq.heap.size wq w3))
      case atStart => exact ⟨0, [], rfl, ⟨Nat.le_refl _⟩, .inl ⟨rfl, rfl⟩, HR, HB2⟩
      case round =>
        clear HR HB2 q0 q1
        obtain ⟨wq3, hw3⟩ : ∃ x, x = wr := ⟨_, rfl⟩
        subst hw3
        obtain ⟨k, zs, rfl, HM2, ⟨rfl, rfl⟩ | ⟨rfl, rfl⟩ | ⟨rfl, rfl⟩, HR, HB2⟩ := hrel
        · have q0 := (HB2.out.cell (World.block_lt_of_cell? _ _ p0)).trans p0
          --@D
          go_wp2_with ((with_reducible refine gate_builtin (b := .append) (xs := #[.tmp 31, .tmp 32]) rfl ?_); at_builtin; (refine cat46 wq3 rfl (.tmp 31) (.tmp 32) rfl wq.heap.size u6 [] xs A c rfl rfl HR.out (Kd.C_below HA.out HB2.out) (by have := HL.out; rw [List.length_nil]; omega) HB2.out.size ?_); intro v' w4 hR' hg'; have HR4 := Aside0.mk hR'; have HB4 := Aside0.mk (HB2.out.grown hg' HB2.out.size (fun k e => Kd.R_base HR.out k e)); clear hR' hg')
          go_roundg 1
          case measure => have := HM2.out; omega
          case rel => exact ⟨1, _, by go_num, ⟨Nat.le_refl _⟩, .inr (.inl ⟨rfl, rfl⟩), HR4, HB4⟩
        · have q1 := (HB2.out.cell (World.block_lt_of_cell? _ _ p1)).trans p1
          go_wp2_with ((with_reducible refine gate_builtin (b := .append) (xs := #[.tmp 31, .tmp 32]) rfl ?_); at_builtin; (refine cat46 wq3 rfl (.tmp 31) (.tmp 32) rfl wq.heap.size u6 zs ys B d rfl rfl HR.out (Kd.C_below HB.out HB2.out) (by have := HL.out; omega) HB2.out.size ?_); intro v' w4 hR' hg'; have HR4 := Aside0.mk hR'; have HB4 := Aside0.mk (HB2.out.grown hg' HB2.out.size (fun k e => Kd.R_base HR.out k e)); clear hR' hg')
          go_roundg 0
          case measure => have := HM2.out; omega
          case rel => exact ⟨2, _, by go_num, ⟨Nat.le_refl _⟩, .inr (.inr ⟨rfl, rfl⟩), HR4, HB4⟩
        · go_wp2
          go_ret
          exact ⟨_, rfl, HR.out, HB2.out⟩
end Go.Proofs.YtldlenjfpjihdaaGreat.PS
end
section
namespace Go.Proofs.YtldlenjfpjihdaaGreat.PS
open Go Go.RowKit Go.Proofs Go.Maps Go.WideMaps Go.Proofs.YtldlenjfpjihdaaGreatW.PrintWords Go.Proofs.YtldlenjfpjihdaaGreatW.PrintLast Go.Proofs.YtldlenjfpjihdaaGreatW.PrintMore
set_option linter.unusedVariables false
set_option linter.unusedSimpArgs false
theorem six {w1 wn : World} {b c : Nat} {x0 x1 x2 y0 y1 y2 : Value} {t u : Nat} (hb : Below w1.heap.size w1 wn) (D : w1.heap[b]? = some (.cells #[x0, x1, x2] t (0, 0))) (E : w1.heap[c]? = some (.cells #[y0, y1, y2] u (0, 0))) :
    wn.cell? ⟨b, 0, none⟩ = some x0 ∧ wn.cell? ⟨b, 1, none⟩ = some x1 ∧ wn.cell? ⟨b, 2, none⟩ = some x2 ∧ wn.cell? ⟨c, 0, none⟩ = some y0 ∧ wn.cell? ⟨c, 1, none⟩ = some y1 ∧ wn.cell? ⟨c, 2, none⟩ = some y2 := by
  have h := (hb.block _ (lt_of D)).trans D
  have h' := (hb.block _ (lt_of E)).trans E
  exact ⟨cell_of h 0, cell_of h 1, cell_of h 2, cell_of h' 0, cell_of h' 1, cell_of h' 2⟩
theorem sixB {w1 wn : World} {b c n : Nat} {x0 x1 x2 y0 y1 y2 : Value} {t u : Nat} (hb : Below n w1 wn) (D : w1.heap[b]? = some (.cells #[x0, x1, x2] t (0, 0))) (E : w1.heap[c]? = some (.cells #[y0, y1, y2] u (0, 0))) (hbn : b < n) (hcn : c < n) :
    wn.cell? ⟨b, 0, none⟩ = some x0 ∧ wn.cell? ⟨b, 1, none⟩ = some x1 ∧ wn.cell? ⟨b, 2, none⟩ = some x2 ∧ wn.cell? ⟨c, 0, none⟩ = some y0 ∧ wn.cell? ⟨c, 1, none⟩ = some y1 ∧ wn.cell? ⟨c, 2, none⟩ = some y2 := by
  have h := (hb.block _ hbn).trans D
  have h' := (hb.block _ hcn).trans E
  exact ⟨cell_of h 0, cell_of h 1, cell_of h 2, cell_of h' 0, cell_of h' 1, cell_of h' 2⟩
theorem C_errs {W : World} {g : Nat} {l : List Int} (h : W.heap[g]? = some (.cells (l.map (Value.int .i64)).toArray 26 (0, 0))) (hl : l.length ≤ 9223372036854775807 := by simp) : Kd.C (Kd.int .i64) W (some ⟨g, 0, none⟩) l.length l := by
  refine ⟨rfl, hl, fun _ => ⟨_, rfl, fun j p hp => ⟨[.int .i64 p], rfl, rfl, fun i u hu => ?_⟩⟩⟩
  have hi : i = 0 := by
    have := (List.getElem?_eq_some_iff.1 hu).1
    simpa using this
  subst hi
  obtain rfl : Value.int .i64 p = u := by simpa using hu
  have e : (⟨g, 0, none⟩ : Addr).add (j * (Kd.int .i64).sz + 0) = ⟨g, j, none⟩ := by
    show (⟨g, 0, none⟩ : Addr).add (j * 1 + 0) = _
    unfold Addr.add
    split <;> simp_all
  rw [e]
  refine (cell_of h j).trans ?_
  simp [hp]
theorem orE_ev (a b : Int) : Ev (fun k => api_Errno.f k [a, b]) (if a = 0 then b else a) := by
  refine Ev.from_ 3 (fun k => ?_)
  have e1 : wrap64 (0 + 1) = 1 := wrap64_id (by decide) (by decide)
  have e2 : wrap64 (1 + 1) = 2 := wrap64_id (by decide) (by decide)
  have r0 : rd [a, b] 0 = a := rfl
  have r1 : rd [a, b] 1 = b := rfl
  unfold api_Errno.f
  have hl : (([a, b] : List Int).length : Int) = 2 := rfl
  rw [hl, api_Errno.l0, r0, e1, api_Errno.l0, r1, e2, api_Errno.l0, hl]
  by_cases ha : a = 0
  · by_cases hb : b = 0 <;> simp [ha, hb]
  · simp [ha]
theorem merge_err {f g : Ft} : mergeC f g = (if (if checkS f = 0 then checkS g else checkS f) = 0 then (if f.len + g.len > 65536 then 2 else 0) else (if checkS f = 0 then checkS g else checkS f)) := by
  unfold mergeC
  by_cases h : checkS f = 0 <;> by_cases h' : checkS g = 0 <;> simp [h, h']
/-- Check, Size and the normal foot, at feet that are told by their cells. -/
theorem sizeV {w : World} {v : Value} {f : Ft} (h : FtV w v f) (hs : f.small) : Calls Tryz.prog 25 #[v] w fun e w' => e = .returned (.int .i64 (f.len : Int)) ∧ Below w.heap.size w w' := by
  obtain ⟨A0, A1, A2, c0, c1, c2, rfl, h⟩ := h
  exact (sets_size.calls A0 c0 f.ps A1 c1 f.ss A2 c2 f.ws _ w h.h0 h.l0 h.h1 h.l1 h.h2 h.l2 (size_ev f hs)).mono fun e w' h => ⟨h.1, h.2⟩
def T14_1 : Bool × List (List Nat × List Nat) := (true, [([], []), ([0], [0]), ([], []), ([2, 1], [2]), ([1, 3], [1, 3]), ([4, 3], [4]), ([5, 5, 0, 1, 2, 3, 4, 5], [5])])
theorem tab14_1 : rtab .any (opsOf Tryz.f14 1) = T14_1 := by kernel_rfl
def T14_4 : Bool × List (List Nat × List Nat) := (true, [([], []), ([0], [0]), ([], []), ([2, 1], [2]), ([1, 3], [1, 3]), ([4], [4])])
theorem tab14_4 : rtab .any (opsOf Tryz.f14 4) = T14_4 := by kernel_rfl
def T14_6 : Bool × List (List Nat × List Nat) := (true, [([], []), ([0], [0]), ([], []), ([2], [2]), ([1, 3], [1, 3]), ([4], [4]), ([], []), ([6], [6]), ([], []), ([8], [8]), ([7, 9], [7, 9]), ([10, 5], [10]), ([], []), ([12], [12]), ([], []), ([14], [14]), ([13, 15], [13, 15]), ([16, 11], [16]), ([5, 11, 17], [5, 11, 17]), ([18, 17], [18]), ([19, 19, 0, 1, 2, 3, 4, 5, 6, 7, 8, 9, 10, 11, 12, 13, 14, 15, 16, 17, 18, 19], [19]), ([20, 0, 1, 2, 3, 4, 5, 6, 7, 8, 9, 10, 11, 12, 13, 14, 15, 16, 17, 18, 19, 20], [])])
theorem tab14_6 : rtab .any (opsOf Tryz.f14 6) = T14_6 := by kernel_rfl
/-- Two rows as_ one slice. -/
def Xb (w : World) (x s0 s1 : Value) (t : Nat) : Prop := ∃ bx, x = .slice (some ⟨bx, 0, none⟩) 2 2 ∧ w.heap[bx]? = some (.cells #[s0, s1] t (0, 0))
theorem Xb.keep {w w' : World} {x s0 s1 : Value} {t : Nat} (h : Xb w x s0 s1 t) (hb : Below w.heap.size w w') : Xb w' x s0 s1 t := by
  obtain ⟨bx, e, h⟩ := h
  exact ⟨bx, e, (hb.block _ (lt_of h)).trans h⟩
def Rb {α : Type} (d : Kd α) (e : Nat) (w : World) (b : Nat) (v : Value) (n : Nat) (xs : List α) : Prop := ∃ C c, v = .slice C n c ∧ Kd.R d e w b (fun _ => True) v xs
theorem Rb.keep {α : Type} {d : Kd α} {e : Nat} {w w' : World} {b n : Nat} {v : Value} {xs : List α} (h : Rb d e w b v n xs) (hb : Below w.heap.size w w') : Rb d e w' b v n xs := by
  obtain ⟨C, c, rfl, h⟩ := h
  exact ⟨C, c, rfl, Kd.R_below h hb⟩
theorem cat_at0 {fp gp fw gw : List S37} {fs gs : List S46} {m0 m1 m2 n0 n1 n2 lf lg : Nat} {w1 w2 : World} {A B : Option Addr} {a b bx : Nat} (hm : (m0 = fp.length ∧ m1 = fs.length ∧ m2 = fw.length) ∧ n0 = gp.length ∧ n1 = gs.length ∧ n2 = gw.length) (hlen : lf = m0 + m1 + m2 ∧ lg = n0 + n1 + n2) (hl : lf + lg ≤ 65536) (hc : Below w1.heap.size w1 w2)
    (hA : Kd.C k37 w2 A m0 fp) (hB : Kd.C k37 w2 B n0 gp) (hx : w2.heap[bx]? = some (.cells #[.slice A m0 a, .slice B n0 b] 22 (0, 0))) :
    Calls Tryz.prog 32 #[.slice (some ⟨bx, 0, none⟩) 2 2] w2 fun e w' => ∃ v, e = .returned v ∧ Rb k37 37 w' w1.heap.size v (m0 + n0) (fp ++ gp) ∧ Below w2.heap.size w2 w' := by
  obtain ⟨⟨rfl, rfl, rfl⟩, rfl, rfl, rfl⟩ := hm
  refine (concat37 fp gp A B a b bx w2 hA hB (by omega) hx).mono ?_
  rintro e w' ⟨v, rfl, hR, hb⟩
  obtain ⟨C, c, rfl⟩ := Kd.R_slice hR
  exact ⟨_, rfl, ⟨C, c, by rw [List.length_append], Kd.R_lower hR hc.size⟩, hb⟩
theorem cat_at1 {fp gp fw gw : List S37} {fs gs : List S46} {m0 m1 m2 n0 n1 n2 lf lg : Nat} {w1 w2 : World} {A B : Option Addr} {a b bx : Nat} (hm : (m0 = fp.length ∧ m1 = fs.length ∧ m2 = fw.length) ∧ n0 = gp.length ∧ n1 = gs.length ∧ n2 = gw.length) (hlen : lf = m0 + m1 + m2 ∧ lg = n0 + n1 + n2) (hl : lf + lg ≤ 65536) (hc : Below w1.heap.size w1 w2)
    (hA : Kd.C k46 w2 A m1 fs) (hB : Kd.C k46 w2 B n1 gs) (hx : w2.heap[bx]? = some (.cells #[.slice A m1 a, .slice B n1 b] 23 (0, 0))) :
    Calls Tryz.prog 33 #[.slice (some ⟨bx, 0, none⟩) 2 2] w2 fun e w' => ∃ v, e = .returned v ∧ Rb k46 46 w' w1.heap.size v (m1 + n1) (fs ++ gs) ∧ Below w2.heap.size w2 w' := by
  obtain ⟨⟨rfl, rfl, rfl⟩, rfl, rfl, rfl⟩ := hm
  refine (concat46 fs gs A B a b bx w2 hA hB (by omega) hx).mono ?_
  rintro e w' ⟨v, rfl, hR, hb⟩
  obtain ⟨C, c, rfl⟩ := Kd.R_slice hR
  exact ⟨_, rfl, ⟨C, c, by rw [List.length_append], Kd.R_lower hR hc.size⟩, hb⟩
theorem cat_at2 {fp gp fw gw : List S37} {fs gs : List S46} {m0 m1 m2 n0 n1 n2 lf lg : Nat} {w1 w2 : World} {A B : Option Addr} {a b bx : Nat} (hm : (m0 = fp.length ∧ m1 = fs.length ∧ m2 = fw.length) ∧ n0 = gp.length ∧ n1 = gs.length ∧ n2 = gw.length) (hlen : lf = m0 + m1 + m2 ∧ lg = n0 + n1 + n2) (hl : lf + lg ≤ 65536) (hc : Below w1.heap.size w1 w2)
    (hA : Kd.C k37 w2 A m2 fw) (hB : Kd.C k37 w2 B n2 gw) (hx : w2.heap[bx]? = some (.cells #[.slice A m2 a, .slice B n2 b] 22 (0, 0))) :
    Calls Tryz.prog 32 #[.slice (some ⟨bx, 0, none⟩) 2 2] w2 fun e w' => ∃ v, e = .returned v ∧ Rb k37 37 w' w1.heap.size v (m2 + n2) (fw ++ gw) ∧ Below w2.heap.size w2 w' := by
  obtain ⟨⟨rfl, rfl, rfl⟩, rfl, rfl, rfl⟩ := hm
  refine (concat37 fw gw A B a b bx w2 hA hB (by omega) hx).mono ?_
  rintro e w' ⟨v, rfl, hR, hb⟩
  obtain ⟨C, c, rfl⟩ := Kd.R_slice hR
  exact ⟨_, rfl, ⟨C, c, by rw [List.length_append], Kd.R_lower hR hc.size⟩, hb⟩
set_option maxHeartbeats 16000000 in
set_option maxRecDepth 100000 in
theorem merge_reg {f g : Ft} {fp gp fw gw : List S37} {fs gs : List S46} {m0 m1 m2 n0 n1 n2 lf lg a0 a1 a2 b0 b1 b2 : Nat} {A0 A1 A2 B0 B1 B2 : Option Addr} {w w1 w9 : World} {Q : Exit → Act → World → Prop} {t0 t1 t2 t3 t4 t5 t6 t7 t8 t9 t10 t11 t12 t13 t14 t15 t16 t17 t18 t19 t20 t21 t22 t23 t24 t25 t26 t27 t28 t29 t30 t31 t32 t33 t34 t35 t36 t37 t38 t39 t40 t41 t42 t43 : Value} {ds : List Deferred}
    (hm : (m0 = fp.length ∧ m1 = fs.length ∧ m2 = fw.length) ∧ n0 = gp.length ∧ n1 = gs.length ∧ n2 = gw.length) (hlen : lf = m0 + m1 + m2 ∧ lg = n0 + n1 + n2) (hl : lf + lg ≤ 65536)
    (HNO : ∀ (W : World) (C0 C1 C2 : Option Addr) (c0 c1 c2 : Nat), lf + lg ≤ 65536 → Kd.R k37 37 W w1.heap.size (fun _ => True) (.slice C0 (m0 + n0) c0) (fp ++ gp) → Kd.R k46 46 W w1.heap.size (fun _ => True) (.slice C1 (m1 + n1) c1) (fs ++ gs) → Kd.R k37 37 W w1.heap.size (fun _ => True) (.slice C2 (m2 + n2) c2) (fw ++ gw) →
      Calls Tryz.prog 20 #[.agg #[.slice C0 (m0 + n0) c0, .slice C1 (m1 + n1) c1, .slice C2 (m2 + n2) c2]] W fun e w' => ∃ (h : Ft) (pl : List SPl) (v v0 v1 v2 : Value), e = .returned v ∧ NormOf (f.app g) h pl ∧ FtO w' W.heap.size v h v0 v1 v2 ∧ Below W.heap.size W w')
    (HF0 : ∀ W, Below w1.heap.size w1 W → Kd.C k37 W A0 m0 fp) (HF1 : ∀ W, Below w1.heap.size w1 W → Kd.C k46 W A1 m1 fs) (HF2 : ∀ W, Below w1.heap.size w1 W → Kd.C k37 W A2 m2 fw) (HG0 : ∀ W, Below w1.heap.size w1 W → Kd.C k37 W B0 n0 gp) (HG1 : ∀ W, Below w1.heap.size w1 W → Kd.C k46 W B1 n1 gs) (HG2 : ∀ W, Below w1.heap.size w1 W → Kd.C k37 W B2 n2 gw)
    (D0 : w1.heap[w.heap.size]? = some (.cells #[.slice A0 m0 a0, .slice A1 m1 a1, .slice A2 m2 a2] 25 (0, 0))) (D1 : w1.heap[w.heap.size + 1]? = some (.cells #[.slice B0 n0 b0, .slice B1 n1 b1, .slice B2 n2 b2] 25 (0, 0))) (D2 : w1.heap[w.heap.size + 1 + 1]? = some (.cells #[.slice none 0 0, .slice none 0 0, .slice none 0 0] 25 (0, 0))) (hc9 : Below w1.heap.size w1 w9)
    (hQp : ∀ c a d v w, Q (.panic c) (Act.put a d v) w → Q (.panic c) a w)
    (hEnd : ∀ (w10 : World) (h : Ft) (pl : List SPl) (C0 C1 C2 : Option Addr) (c0 c1 c2 : Nat) (x24 x25 x26 x27 x28 x29 x30 x31 x32 x33 x34 x35 x36 x37 x38 x39 x40 x41 x42 x43 : Value), NormOf (f.app g) h pl → FtO w10 w1.heap.size (.agg #[.slice C0 h.ps.length c0, .slice C1 h.ss.length c1, .slice C2 h.ws.length c2]) h (.slice C0 h.ps.length c0) (.slice C1 h.ss.length c1) (.slice C2 h.ws.length c2) → Below w.heap.size w1 w10 → w10.heap[w.heap.size + 1 + 1]? = some (.cells #[.slice C0 h.ps.length c0, .slice C1 h.ss.length c1, .slice C2 h.ws.length c2] 25 (0, 0)) → Q .normal ⟨#[t0, t1, .pointer (some ⟨w.heap.size, 0, none⟩), .pointer (some ⟨w.heap.size + 1, 0, none⟩), .pointer (some ⟨w.heap.size + 1 + 1, 0, none⟩), .int .i64 0, t6, t7, t8, t9, t10, t11, t12, t13, t14, t15, t16, t17, t18, t19, t20, t21, t22, t23, x24, x25, x26, x27, x28, x29, x30, x31, x32, x33, x34, x35, x36, x37, x38, x39, x40, x41, x42, x43], ds⟩ w10) :
    (Code.region 6 (opsOf Tryz.f14 6) true).wp Tryz.prog Q ⟨#[t0, t1, .pointer (some ⟨w.heap.size, 0, none⟩), .pointer (some ⟨w.heap.size + 1, 0, none⟩), .pointer (some ⟨w.heap.size + 1 + 1, 0, none⟩), t5, t6, t7, t8, t9, t10, t11, t12, t13, t14, t15, t16, t17, t18, t19, t20, t21, t22, t23, t24, t25, t26, t27, t28, t29, t30, t31, t32, t33, t34, t35, t36, t37, t38, t39, t40, t41, t42, t43], ds⟩ w9 := by
  obtain ⟨M, hM⟩ : ∃ M : Value → Value → Value → Value → Value → Value → Act, M = fun x28 x29 x34 x35 x40 x41 => ⟨#[t0, t1, .pointer (some ⟨w.heap.size, 0, none⟩), .pointer (some ⟨w.heap.size + 1, 0, none⟩), .pointer (some ⟨w.heap.size + 1 + 1, 0, none⟩), t5, t6, t7, t8, t9, t10, t11, t12, t13, t14, t15, t16, t17, t18, t19, t20, t21, t22, t23, .pointer (some ⟨w.heap.size, 0, none⟩), .slice A0 m0 a0, .pointer (some ⟨w.heap.size + 1, 0, none⟩), .slice B0 n0 b0, x28, x29, .pointer (some ⟨w.heap.size, 1, none⟩), .slice A1 m1 a1, .pointer (some ⟨w.heap.size + 1, 1, none⟩), .slice B1 n1 b1, x34, x35, .pointer (some ⟨w.heap.size, 2, none⟩), .slice A2 m2 a2, .pointer (some ⟨w.heap.size + 1, 2, none⟩), .slice B2 n2 b2, x40, x41, t42, t43], ds⟩ := ⟨_, rfl⟩
  obtain ⟨ops, hops⟩ : ∃ ops, opsOf Tryz.f14 6 = ops := ⟨_, rfl⟩
  rw [hops]
  simp [opsOf, opsIn, Tryz.f14] at hops
  have HM := Aside0.mk hm
  have HLen := Aside0.mk hlen
  clear hm hlen
  have hlt := lt_of D2
  have hS : ∀ W, Below w1.heap.size w1 W → Below (w.heap.size + 1 + 1) w1 W := fun W h => h.mono (Nat.le_of_lt hlt)
  --@OPS
  have s4_5_10_11_16_17 : ∀ (w2 : World) (x28 x29 x34 x35 x40 x41 : Value), Below w1.heap.size w1 w2 → Rb k37 37 w2 w1.heap.size x29 (m0 + n0) (fp ++ gp) → Rb k46 46 w2 w1.heap.size x35 (m1 + n1) (fs ++ gs) → Rb k37 37 w2 w1.heap.size x41 (m2 + n2) (fw ++ gw) → wpAnyLast Tryz.prog .any ops Q (fun w' => Below (w.heap.size + 1 + 1) w1 w') [] 4 #[true, true, true, true, true, true, true, true, true, true, true, true, true, true, true, true, true, true, false, false, false, false] (M x28 x29 x34 x35 x40 x41) w2 := by
    intro w2 x28 x29 x34 x35 x40 x41 hc f5 f11 f17
    simp only [hM]
    subst hops
    obtain ⟨C0, c0, rfl, r0⟩ := f5
    obtain ⟨C1, c1, rfl, r1⟩ := f11
    obtain ⟨C2, c2, rfl, r2⟩ := f17
    refine with_tab tab14_6 (fun HT_ => ?_)
    refine pure_ (i := 18) (N := some 42) (v := ?_) (a' := ?_) #[true, true, true, true, true, true, true, true, true, true, true, true, true, true, true, true, true, true, true, false, false, false] rfl rfl (any_of HT_.out (by kernel_rfl)) (fun _ _ _ h => hQp _ _ _ _ _ h) (Or.inl ⟨by rfl, ?_⟩) ?_ ?_
    rotate_left
    · intro w'
      go_simp
      with_reducible rfl
    rotate_left
    · simp only [Act.put, List.setIfInBounds_toArray, List.set_cons_zero, List.set_cons_succ, i64_w, i32_w]
      rfl
    refine one_ (i := 19) (N := some 43) #[true, true, true, true, true, true, true, true, true, true, true, true, true, true, true, true, true, true, true, true, false, false] rfl rfl (one_of HT_.out (by kernel_rfl)) (by decide) (fun K hK => ?_)
    refine goes_ Tryz.func20 (by kernel_rfl) rfl #[.agg #[.slice C0 (m0 + n0) c0, .slice C1 (m1 + n1) c1, .slice C2 (m2 + n2) c2]] (by rfl) rfl rfl (by (try simp only [List.map_toArray, List.map_cons, List.map_nil]); first | done | rfl) ?_
    refine (HNO w2 C0 C1 C2 c0 c1 c2 hl r0 r1 r2).mono ?_
    rintro e w3 ⟨h, pl, v, v0, v1, v2, rfl, hno, ho, hb⟩
    refine ⟨_, rfl, ?_⟩
    have HC3 := Aside0.mk (below_step hc hb)
    have HO := Aside0.mk (ho.lower hc.size)
    have HNo := Aside0.mk hno
    obtain ⟨E0, e0, y0, -, -⟩ := ho.h0.C37
    obtain ⟨E1, e1, y1, -, -⟩ := ho.h1.C46
    obtain ⟨E2, e2, y2, -, -⟩ := ho.h2.C37
    subst y0 y1 y2
    have heq := ho.eq
    subst heq
    have HX := Aside0.mk ((HC3.out.block _ (lt_of D2)).trans D2)
    have hlt := lt_of D2
    clear ho hno hb
    generalize hz0 : h.ps.length = z0 at *
    generalize hz1 : h.ss.length = z1 at *
    generalize hz2 : h.ws.length = z2 at *
    have HZ := Aside0.mk (And.intro hz0 (And.intro hz1 hz2))
    clear hz0 hz1 hz2
    refine hK.out _ _ (hS _ HC3.out) (fun hHeld => ?_)
    clear hK K
    refine norm_ (a' := ?_) ?_ ?_
    rotate_left
    · show Act.put _ (some 43) _ = _
      simp only [Act.put, List.setIfInBounds_toArray, List.set_cons_zero, List.set_cons_succ, i64_w, i32_w]
      rfl
    --@STORE
    have j0 : w3.cell? ⟨w.heap.size + 1 + 1, 0, none⟩ = some (.slice none 0 0) := cell_of HX.out 0
    have j1 : w3.cell? ⟨w.heap.size + 1 + 1, 1, none⟩ = some (.slice none 0 0) := cell_of HX.out 1
    have j2 : w3.cell? ⟨w.heap.size + 1 + 1, 2, none⟩ = some (.slice none 0 0) := cell_of HX.out 2
    have k0 : w3.frozen? ⟨w.heap.size + 1 + 1, 0, none⟩ = false := frozen_of HX.out 0
    have k1 : w3.frozen? ⟨w.heap.size + 1 + 1, 1, none⟩ = false := frozen_of HX.out 1
    have k2 : w3.frozen? ⟨w.heap.size + 1 + 1, 2, none⟩ = false := frozen_of HX.out 2
    refine one_ (i := 20) (N := none) #[true, true, true, true, true, true, true, true, true, true, true, true, true, true, true, true, true, true, true, true, true, false] rfl rfl (one_of HT_.out (by kernel_rfl)) (by decide) (fun K hK => ?_)
    refine skip_ (w1 := ?_) (by rfl) rfl ?_ ?_
    rotate_left
    · go_simp
      rfl
    have hFr : Fr w3 (w.heap.size + 1 + 1) (((w3.setCell ⟨w.heap.size + 1 + 1, 0, none⟩ (.slice E0 z0 e0)).setCell ⟨w.heap.size + 1 + 1, 1, none⟩ (.slice E1 z1 e1)).setCell ⟨w.heap.size + 1 + 1, 2, none⟩ (.slice E2 z2 e2)) := (((Fr.refl (lt_of HX.out)).set 0 _).set 1 _).set 2 _
    obtain ⟨cs1, hc1⟩ := setc_typed HX.out (w.heap.size + 1 + 1) 0 (.slice E0 z0 e0)
    obtain ⟨cs2, hc2⟩ := setc_typed hc1 (w.heap.size + 1 + 1) 1 (.slice E1 z1 e1)
    have HO2 := Aside0.mk (show FtO (((w3.setCell ⟨w.heap.size + 1 + 1, 0, none⟩ (.slice E0 z0 e0)).setCell ⟨w.heap.size + 1 + 1, 1, none⟩ (.slice E1 z1 e1)).setCell ⟨w.heap.size + 1 + 1, 2, none⟩ (.slice E2 z2 e2)) w1.heap.size (.agg #[.slice E0 z0 e0, .slice E1 z1 e1, .slice E2 z2 e2]) h (.slice E0 z0 e0) (.slice E1 z1 e1) (.slice E2 z2 e2) from ((HO.out.setc HX.out).setc hc1).setc hc2)
    have hl3 : Below (w.heap.size + 1 + 1) w1 (((w3.setCell ⟨w.heap.size + 1 + 1, 0, none⟩ (.slice E0 z0 e0)).setCell ⟨w.heap.size + 1 + 1, 1, none⟩ (.slice E1 z1 e1)).setCell ⟨w.heap.size + 1 + 1, 2, none⟩ (.slice E2 z2 e2)) := Below.trans (hS _ HC3.out) hFr.low
    have HX4 := Aside0.mk (show (((w3.setCell ⟨w.heap.size + 1 + 1, 0, none⟩ (.slice E0 z0 e0)).setCell ⟨w.heap.size + 1 + 1, 1, none⟩ (.slice E1 z1 e1)).setCell ⟨w.heap.size + 1 + 1, 2, none⟩ (.slice E2 z2 e2)).heap[w.heap.size + 1 + 1]? = some (.cells #[.slice E0 z0 e0, .slice E1 z1 e1, .slice E2 z2 e2] 25 (0, 0)) from setCell_heap (setCell_heap (setCell_heap HX.out _) _) _)
    generalize ((w3.setCell ⟨w.heap.size + 1 + 1, 0, none⟩ (.slice E0 z0 e0)).setCell ⟨w.heap.size + 1 + 1, 1, none⟩ (.slice E1 z1 e1)).setCell ⟨w.heap.size + 1 + 1, 2, none⟩ (.slice E2 z2 e2) = w4 at HO2 hl3 HX4 ⊢
    --@ST2
    refine hK.out _ _ hl3 (fun hHeld => ?_)
    clear hK K
    refine pure_ (i := 21) (N := some 5) (v := ?_) (a' := ?_) #[true, true, true, true, true, true, true, true, true, true, true, true, true, true, true, true, true, true, true, true, true, true] rfl rfl (any_of HT_.out (by kernel_rfl)) (fun _ _ _ h => hQp _ _ _ _ _ h) (Or.inl ⟨by rfl, ?_⟩) ?_ ?_
    rotate_left
    · intro w'
      go_simp
      with_reducible rfl
    rotate_left
    · simp only [Act.put, List.setIfInBounds_toArray, List.set_cons_zero, List.set_cons_succ, i64_w, i32_w]
      rfl
    refine done_ (done_of HT_.out (by kernel_rfl)) ?_
    --@ST3
    obtain ⟨rfl, rfl, rfl⟩ := HZ.out
    exact hEnd w4 h pl _ _ _ _ _ _ _ _ _ _ _ _ _ _ _ _ _ _ _ _ _ _ _ _ _ _ HNo.out HO2.out (hl3.mono (by omega)) HX4.out
  have s4_5_10_11_16 : ∀ (w2 : World) (x28 x29 x34 x35 x40 x41 : Value), Below w1.heap.size w1 w2 → Rb k37 37 w2 w1.heap.size x29 (m0 + n0) (fp ++ gp) → Rb k46 46 w2 w1.heap.size x35 (m1 + n1) (fs ++ gs) → Xb w2 x40 (.slice A2 m2 a2) (.slice B2 n2 b2) 22 → wpAnyLast Tryz.prog .any ops Q (fun w' => Below (w.heap.size + 1 + 1) w1 w') [] 5 #[true, true, true, true, true, true, true, true, true, true, true, true, true, true, true, true, true, false, false, false, false, false] (M x28 x29 x34 x35 x40 x41) w2 := by
    intro w2 x28 x29 x34 x35 x40 x41 hc f5 f11 f16
    simp only [hM]
    subst hops
    refine with_tab tab14_6 (fun HT_ => ?_)
    refine one_ (i := 17) (N := some 41) #[true, true, true, true, true, true, true, true, true, true, true, true, true, true, true, true, true, true, false, false, false, false] rfl rfl (one_of HT_.out (by kernel_rfl)) (by decide) (fun K hK => ?_)
    obtain ⟨bx, rfl, hx⟩ := f16
    refine goes_ Tryz.func32 (by kernel_rfl) rfl #[.slice (some ⟨bx, 0, none⟩) 2 2] (by rfl) rfl rfl (by (try simp only [List.map_toArray, List.map_cons, List.map_nil]); first | done | rfl) ?_
    refine (cat_at2 HM.out HLen.out hl hc (HF2 w2 hc) (HG2 w2 hc) hx).mono ?_
    rintro e w3 ⟨v, rfl, hR, hb⟩
    refine ⟨_, rfl, ?_⟩
    refine hK.out _ _ (hS _ (below_step hc hb)) (fun hHeld => ?_)
    clear hK K
    refine norm_ (a' := ?_) ?_ ?_
    rotate_left
    · show Act.put _ (some 41) _ = _
      simp only [Act.put, List.setIfInBounds_toArray, List.set_cons_zero, List.set_cons_succ, i64_w, i32_w]
      rfl
    simpa only [hM] using s4_5_10_11_16_17 _ x28 x29 x34 x35 _ _ (below_step hc hb) (f5.keep hb) (f11.keep hb) hR
  have s4_5_10_11 : ∀ (w2 : World) (x28 x29 x34 x35 x40 x41 : Value), Below w1.heap.size w1 w2 → Rb k37 37 w2 w1.heap.size x29 (m0 + n0) (fp ++ gp) → Rb k46 46 w2 w1.heap.size x35 (m1 + n1) (fs ++ gs) → wpAnyLast Tryz.prog .any ops Q (fun w' => Below (w.heap.size + 1 + 1) w1 w') [] 6 #[true, true, true, true, true, true, true, true, true, true, true, true, true, true, true, true, false, false, false, false, false, false] (M x28 x29 x34 x35 x40 x41) w2 := by
    intro w2 x28 x29 x34 x35 x40 x41 hc f5 f11
    simp only [hM]
    subst hops
    refine with_tab tab14_6 (fun HT_ => ?_)
    refine one_ (i := 16) (N := some 40) #[true, true, true, true, true, true, true, true, true, true, true, true, true, true, true, true, true, false, false, false, false, false] rfl rfl (one_of HT_.out (by kernel_rfl)) (by decide) (fun K hK => ?_)
    have hb := below_alloc (Below.refl w2.heap.size w2) (.cells #[.slice A2 m2 a2, .slice B2 n2 b2] 22)
    have hx : Xb (w2.alloc (.cells #[.slice A2 m2 a2, .slice B2 n2 b2] 22)) (.slice (some ⟨w2.heap.size, 0, none⟩) 2 2) (.slice A2 m2 a2) (.slice B2 n2 b2) 22 := ⟨_, rfl, heap_new w2 _⟩
    refine value_ (w1 := ?_) (v := ?_) (by rfl) rfl ?_ ?_
    rotate_left
    rotate_left
    · go_simp
      constructor
      · rfl
      · rfl
    refine hK.out _ _ (hS _ (below_step hc hb)) (fun hHeld => ?_)
    clear hK K
    refine norm_ (a' := ?_) ?_ ?_
    rotate_left
    · show Act.put _ (some 40) _ = _
      simp only [Act.put, List.setIfInBounds_toArray, List.set_cons_zero, List.set_cons_succ, i64_w, i32_w]
      rfl
    simpa only [hM] using s4_5_10_11_16 _ x28 x29 x34 x35 _ x41 (below_step hc hb) (f5.keep hb) (f11.keep hb) hx
  have s4_5_10_16 : ∀ (w2 : World) (x28 x29 x34 x35 x40 x41 : Value), Below w1.heap.size w1 w2 → Rb k37 37 w2 w1.heap.size x29 (m0 + n0) (fp ++ gp) → Xb w2 x34 (.slice A1 m1 a1) (.slice B1 n1 b1) 23 → Xb w2 x40 (.slice A2 m2 a2) (.slice B2 n2 b2) 22 → wpAnyLast Tryz.prog .any ops Q (fun w' => Below (w.heap.size + 1 + 1) w1 w') [] 6 #[true, true, true, true, true, true, true, true, true, true, true, false, true, true, true, true, true, false, false, false, false, false] (M x28 x29 x34 x35 x40 x41) w2 := by
    intro w2 x28 x29 x34 x35 x40 x41 hc f5 f10 f16
    simp only [hM]
    subst hops
    refine with_tab tab14_6 (fun HT_ => ?_)
    refine one_ (i := 11) (N := some 35) #[true, true, true, true, true, true, true, true, true, true, true, true, true, true, true, true, true, false, false, false, false, false] rfl rfl (one_of HT_.out (by kernel_rfl)) (by decide) (fun K hK => ?_)
    obtain ⟨bx, rfl, hx⟩ := f10
    refine goes_ Tryz.func33 (by kernel_rfl) rfl #[.slice (some ⟨bx, 0, none⟩) 2 2] (by rfl) rfl rfl (by (try simp only [List.map_toArray, List.map_cons, List.map_nil]); first | done | rfl) ?_
    refine (cat_at1 HM.out HLen.out hl hc (HF1 w2 hc) (HG1 w2 hc) hx).mono ?_
    rintro e w3 ⟨v, rfl, hR, hb⟩
    refine ⟨_, rfl, ?_⟩
    refine hK.out _ _ (hS _ (below_step hc hb)) (fun hHeld => ?_)
    clear hK K
    refine norm_ (a' := ?_) ?_ ?_
    rotate_left
    · show Act.put _ (some 35) _ = _
      simp only [Act.put, List.setIfInBounds_toArray, List.set_cons_zero, List.set_cons_succ, i64_w, i32_w]
      rfl
    simpa only [hM] using s4_5_10_11_16 _ x28 x29 _ _ x40 x41 (below_step hc hb) (f5.keep hb) hR (f16.keep hb)
  have s4_5_10 : ∀ (w2 : World) (x28 x29 x34 x35 x40 x41 : Value), Below w1.heap.size w1 w2 → Rb k37 37 w2 w1.heap.size x29 (m0 + n0) (fp ++ gp) → Xb w2 x34 (.slice A1 m1 a1) (.slice B1 n1 b1) 23 → wpAnyLast Tryz.prog .any ops Q (fun w' => Below (w.heap.size + 1 + 1) w1 w') [] 7 #[true, true, true, true, true, true, true, true, true, true, true, false, true, true, true, true, false, false, false, false, false, false] (M x28 x29 x34 x35 x40 x41) w2 := by
    intro w2 x28 x29 x34 x35 x40 x41 hc f5 f10
    simp only [hM]
    subst hops
    refine with_tab tab14_6 (fun HT_ => ?_)
    refine two_ (i := 11) (j := 16) (Ni := some 35) (Nj := some 40) #[true, true, true, true, true, true, true, true, true, true, true, true, true, true, true, true, false, false, false, false, false, false] #[true, true, true, true, true, true, true, true, true, true, true, false, true, true, true, true, true, false, false, false, false, false] rfl rfl rfl rfl (two_of HT_.out (by kernel_rfl)) (by decide) (by decide) (fun K hK => ?_) (fun K hK => ?_)
    · obtain ⟨bx, rfl, hx⟩ := f10
      refine goes_ Tryz.func33 (by kernel_rfl) rfl #[.slice (some ⟨bx, 0, none⟩) 2 2] (by rfl) rfl rfl (by (try simp only [List.map_toArray, List.map_cons, List.map_nil]); first | done | rfl) ?_
      refine (cat_at1 HM.out HLen.out hl hc (HF1 w2 hc) (HG1 w2 hc) hx).mono ?_
      rintro e w3 ⟨v, rfl, hR, hb⟩
      refine ⟨_, rfl, ?_⟩
      refine hK.out _ _ (hS _ (below_step hc hb)) (fun hHeld => ?_)
      clear hK K
      refine norm_ (a' := ?_) ?_ ?_
      rotate_left
      · show Act.put _ (some 35) _ = _
        simp only [Act.put, List.setIfInBounds_toArray, List.set_cons_zero, List.set_cons_succ, i64_w, i32_w]
        rfl
      simpa only [hM] using s4_5_10_11 _ x28 x29 _ _ x40 x41 (below_step hc hb) (f5.keep hb) hR
    · have hb := below_alloc (Below.refl w2.heap.size w2) (.cells #[.slice A2 m2 a2, .slice B2 n2 b2] 22)
      have hx : Xb (w2.alloc (.cells #[.slice A2 m2 a2, .slice B2 n2 b2] 22)) (.slice (some ⟨w2.heap.size, 0, none⟩) 2 2) (.slice A2 m2 a2) (.slice B2 n2 b2) 22 := ⟨_, rfl, heap_new w2 _⟩
      refine value_ (w1 := ?_) (v := ?_) (by rfl) rfl ?_ ?_
      rotate_left
      rotate_left
      · go_simp
        constructor
        · rfl
        · rfl
      refine hK.out _ _ (hS _ (below_step hc hb)) (fun hHeld => ?_)
      clear hK K
      refine norm_ (a' := ?_) ?_ ?_
      rotate_left
      · show Act.put _ (some 40) _ = _
        simp only [Act.put, List.setIfInBounds_toArray, List.set_cons_zero, List.set_cons_succ, i64_w, i32_w]
        rfl
      simpa only [hM] using s4_5_10_16 _ x28 x29 x34 x35 _ x41 (below_step hc hb) (f5.keep hb) (f10.keep hb) hx
  have s4_5_16 : ∀ (w2 : World) (x28 x29 x34 x35 x40 x41 : Value), Below w1.heap.size w1 w2 → Rb k37 37 w2 w1.heap.size x29 (m0 + n0) (fp ++ gp) → Xb w2 x40 (.slice A2 m2 a2) (.slice B2 n2 b2) 22 → wpAnyLast Tryz.prog .any ops Q (fun w' => Below (w.heap.size + 1 + 1) w1 w') [] 7 #[true, true, true, true, true, true, true, true, true, true, false, false, true, true, true, true, true, false, false, false, false, false] (M x28 x29 x34 x35 x40 x41) w2 := by
    intro w2 x28 x29 x34 x35 x40 x41 hc f5 f16
    simp only [hM]
    subst hops
    refine with_tab tab14_6 (fun HT_ => ?_)
    refine one_ (i := 10) (N := some 34) #[true, true, true, true, true, true, true, true, true, true, true, false, true, true, true, true, true, false, false, false, false, false] rfl rfl (one_of HT_.out (by kernel_rfl)) (by decide) (fun K hK => ?_)
    have hb := below_alloc (Below.refl w2.heap.size w2) (.cells #[.slice A1 m1 a1, .slice B1 n1 b1] 23)
    have hx : Xb (w2.alloc (.cells #[.slice A1 m1 a1, .slice B1 n1 b1] 23)) (.slice (some ⟨w2.heap.size, 0, none⟩) 2 2) (.slice A1 m1 a1) (.slice B1 n1 b1) 23 := ⟨_, rfl, heap_new w2 _⟩
    refine value_ (w1 := ?_) (v := ?_) (by rfl) rfl ?_ ?_
    rotate_left
    rotate_left
    · go_simp
      constructor
      · rfl
      · rfl
    refine hK.out _ _ (hS _ (below_step hc hb)) (fun hHeld => ?_)
    clear hK K
    refine norm_ (a' := ?_) ?_ ?_
    rotate_left
    · show Act.put _ (some 34) _ = _
      simp only [Act.put, List.setIfInBounds_toArray, List.set_cons_zero, List.set_cons_succ, i64_w, i32_w]
      rfl
    simpa only [hM] using s4_5_10_16 _ x28 x29 _ x35 x40 x41 (below_step hc hb) (f5.keep hb) hx (f16.keep hb)
  have s4_5 : ∀ (w2 : World) (x28 x29 x34 x35 x40 x41 : Value), Below w1.heap.size w1 w2 → Rb k37 37 w2 w1.heap.size x29 (m0 + n0) (fp ++ gp) → wpAnyLast Tryz.prog .any ops Q (fun w' => Below (w.heap.size + 1 + 1) w1 w') [] 8 #[true, true, true, true, true, true, true, true, true, true, false, false, true, true, true, true, false, false, false, false, false, false] (M x28 x29 x34 x35 x40 x41) w2 := by
    intro w2 x28 x29 x34 x35 x40 x41 hc f5
    simp only [hM]
    subst hops
    refine with_tab tab14_6 (fun HT_ => ?_)
    refine two_ (i := 10) (j := 16) (Ni := some 34) (Nj := some 40) #[true, true, true, true, true, true, true, true, true, true, true, false, true, true, true, true, false, false, false, false, false, false] #[true, true, true, true, true, true, true, true, true, true, false, false, true, true, true, true, true, false, false, false, false, false] rfl rfl rfl rfl (two_of HT_.out (by kernel_rfl)) (by decide) (by decide) (fun K hK => ?_) (fun K hK => ?_)
    · have hb := below_alloc (Below.refl w2.heap.size w2) (.cells #[.slice A1 m1 a1, .slice B1 n1 b1] 23)
      have hx : Xb (w2.alloc (.cells #[.slice A1 m1 a1, .slice B1 n1 b1] 23)) (.slice (some ⟨w2.heap.size, 0, none⟩) 2 2) (.slice A1 m1 a1) (.slice B1 n1 b1) 23 := ⟨_, rfl, heap_new w2 _⟩
      refine value_ (w1 := ?_) (v := ?_) (by rfl) rfl ?_ ?_
      rotate_left
      rotate_left
      · go_simp
        constructor
        · rfl
        · rfl
      refine hK.out _ _ (hS _ (below_step hc hb)) (fun hHeld => ?_)
      clear hK K
      refine norm_ (a' := ?_) ?_ ?_
      rotate_left
      · show Act.put _ (some 34) _ = _
        simp only [Act.put, List.setIfInBounds_toArray, List.set_cons_zero, List.set_cons_succ, i64_w, i32_w]
        rfl
      simpa only [hM] using s4_5_10 _ x28 x29 _ x35 x40 x41 (below_step hc hb) (f5.keep hb) hx
    · have hb := below_alloc (Below.refl w2.heap.size w2) (.cells #[.slice A2 m2 a2, .slice B2 n2 b2] 22)
      have hx : Xb (w2.alloc (.cells #[.slice A2 m2 a2, .slice B2 n2 b2] 22)) (.slice (some ⟨w2.heap.size, 0, none⟩) 2 2) (.slice A2 m2 a2) (.slice B2 n2 b2) 22 := ⟨_, rfl, heap_new w2 _⟩
      refine value_ (w1 := ?_) (v := ?_) (by rfl) rfl ?_ ?_
      rotate_left
      rotate_left
      · go_simp
        constructor
        · rfl
        · rfl
      refine hK.out _ _ (hS _ (below_step hc hb)) (fun hHeld => ?_)
      clear hK K
      refine norm_ (a' := ?_) ?_ ?_
      rotate_left
      · show Act.put _ (some 40) _ = _
        simp only [Act.put, List.setIfInBounds_toArray, List.set_cons_zero, List.set_cons_succ, i64_w, i32_w]
        rfl
      simpa only [hM] using s4_5_16 _ x28 x29 x34 x35 _ x41 (below_step hc hb) (f5.keep hb) hx
  have s4_10_16 : ∀ (w2 : World) (x28 x29 x34 x35 x40 x41 : Value), Below w1.heap.size w1 w2 → Xb w2 x28 (.slice A0 m0 a0) (.slice B0 n0 b0) 22 → Xb w2 x34 (.slice A1 m1 a1) (.slice B1 n1 b1) 23 → Xb w2 x40 (.slice A2 m2 a2) (.slice B2 n2 b2) 22 → wpAnyLast Tryz.prog .any ops Q (fun w' => Below (w.heap.size + 1 + 1) w1 w') [] 7 #[true, true, true, true, true, false, true, true, true, true, true, false, true, true, true, true, true, false, false, false, false, false] (M x28 x29 x34 x35 x40 x41) w2 := by
    intro w2 x28 x29 x34 x35 x40 x41 hc f4 f10 f16
    simp only [hM]
    subst hops
    refine with_tab tab14_6 (fun HT_ => ?_)
    refine one_ (i := 5) (N := some 29) #[true, true, true, true, true, true, true, true, true, true, true, false, true, true, true, true, true, false, false, false, false, false] rfl rfl (one_of HT_.out (by kernel_rfl)) (by decide) (fun K hK => ?_)
    obtain ⟨bx, rfl, hx⟩ := f4
    refine goes_ Tryz.func32 (by kernel_rfl) rfl #[.slice (some ⟨bx, 0, none⟩) 2 2] (by rfl) rfl rfl (by (try simp only [List.map_toArray, List.map_cons, List.map_nil]); first | done | rfl) ?_
    refine (cat_at0 HM.out HLen.out hl hc (HF0 w2 hc) (HG0 w2 hc) hx).mono ?_
    rintro e w3 ⟨v, rfl, hR, hb⟩
    refine ⟨_, rfl, ?_⟩
    refine hK.out _ _ (hS _ (below_step hc hb)) (fun hHeld => ?_)
    clear hK K
    refine norm_ (a' := ?_) ?_ ?_
    rotate_left
    · show Act.put _ (some 29) _ = _
      simp only [Act.put, List.setIfInBounds_toArray, List.set_cons_zero, List.set_cons_succ, i64_w, i32_w]
      rfl
    simpa only [hM] using s4_5_10_16 _ _ _ x34 x35 x40 x41 (below_step hc hb) hR (f10.keep hb) (f16.keep hb)
  have s4_10 : ∀ (w2 : World) (x28 x29 x34 x35 x40 x41 : Value), Below w1.heap.size w1 w2 → Xb w2 x28 (.slice A0 m0 a0) (.slice B0 n0 b0) 22 → Xb w2 x34 (.slice A1 m1 a1) (.slice B1 n1 b1) 23 → wpAnyLast Tryz.prog .any ops Q (fun w' => Below (w.heap.size + 1 + 1) w1 w') [] 8 #[true, true, true, true, true, false, true, true, true, true, true, false, true, true, true, true, false, false, false, false, false, false] (M x28 x29 x34 x35 x40 x41) w2 := by
    intro w2 x28 x29 x34 x35 x40 x41 hc f4 f10
    simp only [hM]
    subst hops
    refine with_tab tab14_6 (fun HT_ => ?_)
    refine two_ (i := 5) (j := 16) (Ni := some 29) (Nj := some 40) #[true, true, true, true, true, true, true, true, true, true, true, false, true, true, true, true, false, false, false, false, false, false] #[true, true, true, true, true, false, true, true, true, true, true, false, true, true, true, true, true, false, false, false, false, false] rfl rfl rfl rfl (two_of HT_.out (by kernel_rfl)) (by decide) (by decide) (fun K hK => ?_) (fun K hK => ?_)
    · obtain ⟨bx, rfl, hx⟩ := f4
      refine goes_ Tryz.func32 (by kernel_rfl) rfl #[.slice (some ⟨bx, 0, none⟩) 2 2] (by rfl) rfl rfl (by (try simp only [List.map_toArray, List.map_cons, List.map_nil]); first | done | rfl) ?_
      refine (cat_at0 HM.out HLen.out hl hc (HF0 w2 hc) (HG0 w2 hc) hx).mono ?_
      rintro e w3 ⟨v, rfl, hR, hb⟩
      refine ⟨_, rfl, ?_⟩
      refine hK.out _ _ (hS _ (below_step hc hb)) (fun hHeld => ?_)
      clear hK K
      refine norm_ (a' := ?_) ?_ ?_
      rotate_left
      · show Act.put _ (some 29) _ = _
        simp only [Act.put, List.setIfInBounds_toArray, List.set_cons_zero, List.set_cons_succ, i64_w, i32_w]
        rfl
      simpa only [hM] using s4_5_10 _ _ _ x34 x35 x40 x41 (below_step hc hb) hR (f10.keep hb)
    · have hb := below_alloc (Below.refl w2.heap.size w2) (.cells #[.slice A2 m2 a2, .slice B2 n2 b2] 22)
      have hx : Xb (w2.alloc (.cells #[.slice A2 m2 a2, .slice B2 n2 b2] 22)) (.slice (some ⟨w2.heap.size, 0, none⟩) 2 2) (.slice A2 m2 a2) (.slice B2 n2 b2) 22 := ⟨_, rfl, heap_new w2 _⟩
      refine value_ (w1 := ?_) (v := ?_) (by rfl) rfl ?_ ?_
      rotate_left
      rotate_left
      · go_simp
        constructor
        · rfl
        · rfl
      refine hK.out _ _ (hS _ (below_step hc hb)) (fun hHeld => ?_)
      clear hK K
      refine norm_ (a' := ?_) ?_ ?_
      rotate_left
      · show Act.put _ (some 40) _ = _
        simp only [Act.put, List.setIfInBounds_toArray, List.set_cons_zero, List.set_cons_succ, i64_w, i32_w]
        rfl
      simpa only [hM] using s4_10_16 _ x28 x29 x34 x35 _ x41 (below_step hc hb) (f4.keep hb) (f10.keep hb) hx
  have s4_16 : ∀ (w2 : World) (x28 x29 x34 x35 x40 x41 : Value), Below w1.heap.size w1 w2 → Xb w2 x28 (.slice A0 m0 a0) (.slice B0 n0 b0) 22 → Xb w2 x40 (.slice A2 m2 a2) (.slice B2 n2 b2) 22 → wpAnyLast Tryz.prog .any ops Q (fun w' => Below (w.heap.size + 1 + 1) w1 w') [] 8 #[true, true, true, true, true, false, true, true, true, true, false, false, true, true, true, true, true, false, false, false, false, false] (M x28 x29 x34 x35 x40 x41) w2 := by
    intro w2 x28 x29 x34 x35 x40 x41 hc f4 f16
    simp only [hM]
    subst hops
    refine with_tab tab14_6 (fun HT_ => ?_)
    refine two_ (i := 5) (j := 10) (Ni := some 29) (Nj := some 34) #[true, true, true, true, true, true, true, true, true, true, false, false, true, true, true, true, true, false, false, false, false, false] #[true, true, true, true, true, false, true, true, true, true, true, false, true, true, true, true, true, false, false, false, false, false] rfl rfl rfl rfl (two_of HT_.out (by kernel_rfl)) (by decide) (by decide) (fun K hK => ?_) (fun K hK => ?_)
    · obtain ⟨bx, rfl, hx⟩ := f4
      refine goes_ Tryz.func32 (by kernel_rfl) rfl #[.slice (some ⟨bx, 0, none⟩) 2 2] (by rfl) rfl rfl (by (try simp only [List.map_toArray, List.map_cons, List.map_nil]); first | done | rfl) ?_
      refine (cat_at0 HM.out HLen.out hl hc (HF0 w2 hc) (HG0 w2 hc) hx).mono ?_
      rintro e w3 ⟨v, rfl, hR, hb⟩
      refine ⟨_, rfl, ?_⟩
      refine hK.out _ _ (hS _ (below_step hc hb)) (fun hHeld => ?_)
      clear hK K
      refine norm_ (a' := ?_) ?_ ?_
      rotate_left
      · show Act.put _ (some 29) _ = _
        simp only [Act.put, List.setIfInBounds_toArray, List.set_cons_zero, List.set_cons_succ, i64_w, i32_w]
        rfl
      simpa only [hM] using s4_5_16 _ _ _ x34 x35 x40 x41 (below_step hc hb) hR (f16.keep hb)
    · have hb := below_alloc (Below.refl w2.heap.size w2) (.cells #[.slice A1 m1 a1, .slice B1 n1 b1] 23)
      have hx : Xb (w2.alloc (.cells #[.slice A1 m1 a1, .slice B1 n1 b1] 23)) (.slice (some ⟨w2.heap.size, 0, none⟩) 2 2) (.slice A1 m1 a1) (.slice B1 n1 b1) 23 := ⟨_, rfl, heap_new w2 _⟩
      refine value_ (w1 := ?_) (v := ?_) (by rfl) rfl ?_ ?_
      rotate_left
      rotate_left
      · go_simp
        constructor
        · rfl
        · rfl
      refine hK.out _ _ (hS _ (below_step hc hb)) (fun hHeld => ?_)
      clear hK K
      refine norm_ (a' := ?_) ?_ ?_
      rotate_left
      · show Act.put _ (some 34) _ = _
        simp only [Act.put, List.setIfInBounds_toArray, List.set_cons_zero, List.set_cons_succ, i64_w, i32_w]
        rfl
      simpa only [hM] using s4_10_16 _ x28 x29 _ x35 x40 x41 (below_step hc hb) (f4.keep hb) hx (f16.keep hb)
  have s4 : ∀ (w2 : World) (x28 x29 x34 x35 x40 x41 : Value), Below w1.heap.size w1 w2 → Xb w2 x28 (.slice A0 m0 a0) (.slice B0 n0 b0) 22 → wpAnyLast Tryz.prog .any ops Q (fun w' => Below (w.heap.size + 1 + 1) w1 w') [] 9 #[true, true, true, true, true, false, true, true, true, true, false, false, true, true, true, true, false, false, false, false, false, false] (M x28 x29 x34 x35 x40 x41) w2 := by
    intro w2 x28 x29 x34 x35 x40 x41 hc f4
    simp only [hM]
    subst hops
    refine with_tab tab14_6 (fun HT_ => ?_)
    refine three_ (i := 5) (j := 10) (k := 16) (Ni := some 29) (Nj := some 34) (Nk := some 40) #[true, true, true, true, true, true, true, true, true, true, false, false, true, true, true, true, false, false, false, false, false, false] #[true, true, true, true, true, false, true, true, true, true, true, false, true, true, true, true, false, false, false, false, false, false] #[true, true, true, true, true, false, true, true, true, true, false, false, true, true, true, true, true, false, false, false, false, false] rfl rfl rfl rfl rfl rfl (three_of HT_.out (by kernel_rfl)) (by decide) (by decide) (by decide) (fun K hK => ?_) (fun K hK => ?_) (fun K hK => ?_)
    · obtain ⟨bx, rfl, hx⟩ := f4
      refine goes_ Tryz.func32 (by kernel_rfl) rfl #[.slice (some ⟨bx, 0, none⟩) 2 2] (by rfl) rfl rfl (by (try simp only [List.map_toArray, List.map_cons, List.map_nil]); first | done | rfl) ?_
      refine (cat_at0 HM.out HLen.out hl hc (HF0 w2 hc) (HG0 w2 hc) hx).mono ?_
      rintro e w3 ⟨v, rfl, hR, hb⟩
      refine ⟨_, rfl, ?_⟩
      refine hK.out _ _ (hS _ (below_step hc hb)) (fun hHeld => ?_)
      clear hK K
      refine norm_ (a' := ?_) ?_ ?_
      rotate_left
      · show Act.put _ (some 29) _ = _
        simp only [Act.put, List.setIfInBounds_toArray, List.set_cons_zero, List.set_cons_succ, i64_w, i32_w]
        rfl
      simpa only [hM] using s4_5 _ _ _ x34 x35 x40 x41 (below_step hc hb) hR
    · have hb := below_alloc (Below.refl w2.heap.size w2) (.cells #[.slice A1 m1 a1, .slice B1 n1 b1] 23)
      have hx : Xb (w2.alloc (.cells #[.slice A1 m1 a1, .slice B1 n1 b1] 23)) (.slice (some ⟨w2.heap.size, 0, none⟩) 2 2) (.slice A1 m1 a1) (.slice B1 n1 b1) 23 := ⟨_, rfl, heap_new w2 _⟩
      refine value_ (w1 := ?_) (v := ?_) (by rfl) rfl ?_ ?_
      rotate_left
      rotate_left
      · go_simp
        constructor
        · rfl
        · rfl
      refine hK.out _ _ (hS _ (below_step hc hb)) (fun hHeld => ?_)
      clear hK K
      refine norm_ (a' := ?_) ?_ ?_
      rotate_left
      · show Act.put _ (some 34) _ = _
        simp only [Act.put, List.setIfInBounds_toArray, List.set_cons_zero, List.set_cons_succ, i64_w, i32_w]
        rfl
      simpa only [hM] using s4_10 _ x28 x29 _ x35 x40 x41 (below_step hc hb) (f4.keep hb) hx
    · have hb := below_alloc (Below.refl w2.heap.size w2) (.cells #[.slice A2 m2 a2, .slice B2 n2 b2] 22)
      have hx : Xb (w2.alloc (.cells #[.slice A2 m2 a2, .slice B2 n2 b2] 22)) (.slice (some ⟨w2.heap.size, 0, none⟩) 2 2) (.slice A2 m2 a2) (.slice B2 n2 b2) 22 := ⟨_, rfl, heap_new w2 _⟩
      refine value_ (w1 := ?_) (v := ?_) (by rfl) rfl ?_ ?_
      rotate_left
      rotate_left
      · go_simp
        constructor
        · rfl
        · rfl
      refine hK.out _ _ (hS _ (below_step hc hb)) (fun hHeld => ?_)
      clear hK K
      refine norm_ (a' := ?_) ?_ ?_
      rotate_left
      · show Act.put _ (some 40) _ = _
        simp only [Act.put, List.setIfInBounds_toArray, List.set_cons_zero, List.set_cons_succ, i64_w, i32_w]
        rfl
      simpa only [hM] using s4_16 _ x28 x29 x34 x35 _ x41 (below_step hc hb) (f4.keep hb) hx
  have s10_16 : ∀ (w2 : World) (x28 x29 x34 x35 x40 x41 : Value), Below w1.heap.size w1 w2 → Xb w2 x34 (.slice A1 m1 a1) (.slice B1 n1 b1) 23 → Xb w2 x40 (.slice A2 m2 a2) (.slice B2 n2 b2) 22 → wpAnyLast Tryz.prog .any ops Q (fun w' => Below (w.heap.size + 1 + 1) w1 w') [] 8 #[true, true, true, true, false, false, true, true, true, true, true, false, true, true, true, true, true, false, false, false, false, false] (M x28 x29 x34 x35 x40 x41) w2 := by
    intro w2 x28 x29 x34 x35 x40 x41 hc f10 f16
    simp only [hM]
    subst hops
    refine with_tab tab14_6 (fun HT_ => ?_)
    refine one_ (i := 4) (N := some 28) #[true, true, true, true, true, false, true, true, true, true, true, false, true, true, true, true, true, false, false, false, false, false] rfl rfl (one_of HT_.out (by kernel_rfl)) (by decide) (fun K hK => ?_)
    have hb := below_alloc (Below.refl w2.heap.size w2) (.cells #[.slice A0 m0 a0, .slice B0 n0 b0] 22)
    have hx : Xb (w2.alloc (.cells #[.slice A0 m0 a0, .slice B0 n0 b0] 22)) (.slice (some ⟨w2.heap.size, 0, none⟩) 2 2) (.slice A0 m0 a0) (.slice B0 n0 b0) 22 := ⟨_, rfl, heap_new w2 _⟩
    refine value_ (w1 := ?_) (v := ?_) (by rfl) rfl ?_ ?_
    rotate_left
    rotate_left
    · go_simp
      constructor
      · rfl
      · rfl
    refine hK.out _ _ (hS _ (below_step hc hb)) (fun hHeld => ?_)
    clear hK K
    refine norm_ (a' := ?_) ?_ ?_
    rotate_left
    · show Act.put _ (some 28) _ = _
      simp only [Act.put, List.setIfInBounds_toArray, List.set_cons_zero, List.set_cons_succ, i64_w, i32_w]
      rfl
    simpa only [hM] using s4_10_16 _ _ x29 x34 x35 x40 x41 (below_step hc hb) hx (f10.keep hb) (f16.keep hb)
  have s10 : ∀ (w2 : World) (x28 x29 x34 x35 x40 x41 : Value), Below w1.heap.size w1 w2 → Xb w2 x34 (.slice A1 m1 a1) (.slice B1 n1 b1) 23 → wpAnyLast Tryz.prog .any ops Q (fun w' => Below (w.heap.size + 1 + 1) w1 w') [] 9 #[true, true, true, true, false, false, true, true, true, true, true, false, true, true, true, true, false, false, false, false, false, false] (M x28 x29 x34 x35 x40 x41) w2 := by
    intro w2 x28 x29 x34 x35 x40 x41 hc f10
    simp only [hM]
    subst hops
    refine with_tab tab14_6 (fun HT_ => ?_)
    refine two_ (i := 4) (j := 16) (Ni := some 28) (Nj := some 40) #[true, true, true, true, true, false, true, true, true, true, true, false, true, true, true, true, false, false, false, false, false, false] #[true, true, true, true, false, false, true, true, true, true, true, false, true, true, true, true, true, false, false, false, false, false] rfl rfl rfl rfl (two_of HT_.out (by kernel_rfl)) (by decide) (by decide) (fun K hK => ?_) (fun K hK => ?_)
    · have hb := below_alloc (Below.refl w2.heap.size w2) (.cells #[.slice A0 m0 a0, .slice B0 n0 b0] 22)
      have hx : Xb (w2.alloc (.cells #[.slice A0 m0 a0, .slice B0 n0 b0] 22)) (.slice (some ⟨w2.heap.size, 0, none⟩) 2 2) (.slice A0 m0 a0) (.slice B0 n0 b0) 22 := ⟨_, rfl, heap_new w2 _⟩
      refine value_ (w1 := ?_) (v := ?_) (by rfl) rfl ?_ ?_
      rotate_left
      rotate_left
      · go_simp
        constructor
        · rfl
        · rfl
      refine hK.out _ _ (hS _ (below_step hc hb)) (fun hHeld => ?_)
      clear hK K
      refine norm_ (a' := ?_) ?_ ?_
      rotate_left
      · show Act.put _ (some 28) _ = _
        simp only [Act.put, List.setIfInBounds_toArray, List.set_cons_zero, List.set_cons_succ, i64_w, i32_w]
        rfl
      simpa only [hM] using s4_10 _ _ x29 x34 x35 x40 x41 (below_step hc hb) hx (f10.keep hb)
    · have hb := below_alloc (Below.refl w2.heap.size w2) (.cells #[.slice A2 m2 a2, .slice B2 n2 b2] 22)
      have hx : Xb (w2.alloc (.cells #[.slice A2 m2 a2, .slice B2 n2 b2] 22)) (.slice (some ⟨w2.heap.size, 0, none⟩) 2 2) (.slice A2 m2 a2) (.slice B2 n2 b2) 22 := ⟨_, rfl, heap_new w2 _⟩
      refine value_ (w1 := ?_) (v := ?_) (by rfl) rfl ?_ ?_
      rotate_left
      rotate_left
      · go_simp
        constructor
        · rfl
        · rfl
      refine hK.out _ _ (hS _ (below_step hc hb)) (fun hHeld => ?_)
      clear hK K
      refine norm_ (a' := ?_) ?_ ?_
      rotate_left
      · show Act.put _ (some 40) _ = _
        simp only [Act.put, List.setIfInBounds_toArray, List.set_cons_zero, List.set_cons_succ, i64_w, i32_w]
        rfl
      simpa only [hM] using s10_16 _ x28 x29 x34 x35 _ x41 (below_step hc hb) (f10.keep hb) hx
  have s16 : ∀ (w2 : World) (x28 x29 x34 x35 x40 x41 : Value), Below w1.heap.size w1 w2 → Xb w2 x40 (.slice A2 m2 a2) (.slice B2 n2 b2) 22 → wpAnyLast Tryz.prog .any ops Q (fun w' => Below (w.heap.size + 1 + 1) w1 w') [] 9 #[true, true, true, true, false, false, true, true, true, true, false, false, true, true, true, true, true, false, false, false, false, false] (M x28 x29 x34 x35 x40 x41) w2 := by
    intro w2 x28 x29 x34 x35 x40 x41 hc f16
    simp only [hM]
    subst hops
    refine with_tab tab14_6 (fun HT_ => ?_)
    refine two_ (i := 4) (j := 10) (Ni := some 28) (Nj := some 34) #[true, true, true, true, true, false, true, true, true, true, false, false, true, true, true, true, true, false, false, false, false, false] #[true, true, true, true, false, false, true, true, true, true, true, false, true, true, true, true, true, false, false, false, false, false] rfl rfl rfl rfl (two_of HT_.out (by kernel_rfl)) (by decide) (by decide) (fun K hK => ?_) (fun K hK => ?_)
    · have hb := below_alloc (Below.refl w2.heap.size w2) (.cells #[.slice A0 m0 a0, .slice B0 n0 b0] 22)
      have hx : Xb (w2.alloc (.cells #[.slice A0 m0 a0, .slice B0 n0 b0] 22)) (.slice (some ⟨w2.heap.size, 0, none⟩) 2 2) (.slice A0 m0 a0) (.slice B0 n0 b0) 22 := ⟨_, rfl, heap_new w2 _⟩
      refine value_ (w1 := ?_) (v := ?_) (by rfl) rfl ?_ ?_
      rotate_left
      rotate_left
      · go_simp
        constructor
        · rfl
        · rfl
      refine hK.out _ _ (hS _ (below_step hc hb)) (fun hHeld => ?_)
      clear hK K
      refine norm_ (a' := ?_) ?_ ?_
      rotate_left
      · show Act.put _ (some 28) _ = _
        simp only [Act.put, List.setIfInBounds_toArray, List.set_cons_zero, List.set_cons_succ, i64_w, i32_w]
        rfl
      simpa only [hM] using s4_16 _ _ x29 x34 x35 x40 x41 (below_step hc hb) hx (f16.keep hb)
    · have hb := below_alloc (Below.refl w2.heap.size w2) (.cells #[.slice A1 m1 a1, .slice B1 n1 b1] 23)
      have hx : Xb (w2.alloc (.cells #[.slice A1 m1 a1, .slice B1 n1 b1] 23)) (.slice (some ⟨w2.heap.size, 0, none⟩) 2 2) (.slice A1 m1 a1) (.slice B1 n1 b1) 23 := ⟨_, rfl, heap_new w2 _⟩
      refine value_ (w1 := ?_) (v := ?_) (by rfl) rfl ?_ ?_
      rotate_left
      rotate_left
      · go_simp
        constructor
        · rfl
        · rfl
      refine hK.out _ _ (hS _ (below_step hc hb)) (fun hHeld => ?_)
      clear hK K
      refine norm_ (a' := ?_) ?_ ?_
      rotate_left
      · show Act.put _ (some 34) _ = _
        simp only [Act.put, List.setIfInBounds_toArray, List.set_cons_zero, List.set_cons_succ, i64_w, i32_w]
        rfl
      simpa only [hM] using s10_16 _ x28 x29 _ x35 x40 x41 (below_step hc hb) hx (f16.keep hb)
  have s : ∀ (w2 : World) (x28 x29 x34 x35 x40 x41 : Value), Below w1.heap.size w1 w2 → wpAnyLast Tryz.prog .any ops Q (fun w' => Below (w.heap.size + 1 + 1) w1 w') [] 10 #[true, true, true, true, false, false, true, true, true, true, false, false, true, true, true, true, false, false, false, false, false, false] (M x28 x29 x34 x35 x40 x41) w2 := by
    intro w2 x28 x29 x34 x35 x40 x41 hc
    simp only [hM]
    subst hops
    refine with_tab tab14_6 (fun HT_ => ?_)
    refine three_ (i := 4) (j := 10) (k := 16) (Ni := some 28) (Nj := some 34) (Nk := some 40) #[true, true, true, true, true, false, true, true, true, true, false, false, true, true, true, true, false, false, false, false, false, false] #[true, true, true, true, false, false, true, true, true, true, true, false, true, true, true, true, false, false, false, false, false, false] #[true, true, true, true, false, false, true, true, true, true, false, false, true, true, true, true, true, false, false, false, false, false] rfl rfl rfl rfl rfl rfl (three_of HT_.out (by kernel_rfl)) (by decide) (by decide) (by decide) (fun K hK => ?_) (fun K hK => ?_) (fun K hK => ?_)
    · have hb := below_alloc (Below.refl w2.heap.size w2) (.cells #[.slice A0 m0 a0, .slice B0 n0 b0] 22)
      have hx : Xb (w2.alloc (.cells #[.slice A0 m0 a0, .slice B0 n0 b0] 22)) (.slice (some ⟨w2.heap.size, 0, none⟩) 2 2) (.slice A0 m0 a0) (.slice B0 n0 b0) 22 := ⟨_, rfl, heap_new w2 _⟩
      refine value_ (w1 := ?_) (v := ?_) (by rfl) rfl ?_ ?_
      rotate_left
      rotate_left
      · go_simp
        constructor
        · rfl
        · rfl
      refine hK.out _ _ (hS _ (below_step hc hb)) (fun hHeld => ?_)
      clear hK K
      refine norm_ (a' := ?_) ?_ ?_
      rotate_left
      · show Act.put _ (some 28) _ = _
        simp only [Act.put, List.setIfInBounds_toArray, List.set_cons_zero, List.set_cons_succ, i64_w, i32_w]
        rfl
      simpa only [hM] using s4 _ _ x29 x34 x35 x40 x41 (below_step hc hb) hx
    · have hb := below_alloc (Below.refl w2.heap.size w2) (.cells #[.slice A1 m1 a1, .slice B1 n1 b1] 23)
      have hx : Xb (w2.alloc (.cells #[.slice A1 m1 a1, .slice B1 n1 b1] 23)) (.slice (some ⟨w2.heap.size, 0, none⟩) 2 2) (.slice A1 m1 a1) (.slice B1 n1 b1) 23 := ⟨_, rfl, heap_new w2 _⟩
      refine value_ (w1 := ?_) (v := ?_) (by rfl) rfl ?_ ?_
      rotate_left
      rotate_left
      · go_simp
        constructor
        · rfl
        · rfl
      refine hK.out _ _ (hS _ (below_step hc hb)) (fun hHeld => ?_)
      clear hK K
      refine norm_ (a' := ?_) ?_ ?_
      rotate_left
      · show Act.put _ (some 34) _ = _
        simp only [Act.put, List.setIfInBounds_toArray, List.set_cons_zero, List.set_cons_succ, i64_w, i32_w]
        rfl
      simpa only [hM] using s10 _ x28 x29 _ x35 x40 x41 (below_step hc hb) hx
    · have hb := below_alloc (Below.refl w2.heap.size w2) (.cells #[.slice A2 m2 a2, .slice B2 n2 b2] 22)
      have hx : Xb (w2.alloc (.cells #[.slice A2 m2 a2, .slice B2 n2 b2] 22)) (.slice (some ⟨w2.heap.size, 0, none⟩) 2 2) (.slice A2 m2 a2) (.slice B2 n2 b2) 22 := ⟨_, rfl, heap_new w2 _⟩
      refine value_ (w1 := ?_) (v := ?_) (by rfl) rfl ?_ ?_
      rotate_left
      rotate_left
      · go_simp
        constructor
        · rfl
        · rfl
      refine hK.out _ _ (hS _ (below_step hc hb)) (fun hHeld => ?_)
      clear hK K
      refine norm_ (a' := ?_) ?_ ?_
      rotate_left
      · show Act.put _ (some 40) _ = _
        simp only [Act.put, List.setIfInBounds_toArray, List.set_cons_zero, List.set_cons_succ, i64_w, i32_w]
        rfl
      simpa only [hM] using s16 _ x28 x29 x34 x35 _ x41 (below_step hc hb) hx
  subst hops
  have hbD := below_step hc9 (below_drew1 (Below.refl w9.heap.size w9))
  refine start_ (n := 22) (S := fun w' => Below (w.heap.size + 1 + 1) w1 w') (ds := []) #[false, false, false, false, false, false, false, false, false, false, false, false, false, false, false, false, false, false, false, false, false, false] (by kernel_rfl) rfl rfl (hS _ hbD) (fun hHeld => ?_); refine with_tab tab14_6 (fun HT_ => ?_)
  generalize w9.drew = w10 at hbD hHeld ⊢
  clear hHeld
  have hHeld := hS _ hbD
  refine pure_ (i := 0) (N := some 24) (v := ?_) (a' := ?_) #[true, false, false, false, false, false, false, false, false, false, false, false, false, false, false, false, false, false, false, false, false, false] rfl rfl (any_of HT_.out (by kernel_rfl)) (fun _ _ _ h => hQp _ _ _ _ _ h) (Or.inl ⟨by rfl, ?_⟩) ?_ ?_
  rotate_left
  · intro w'
    go_simp
    with_reducible rfl
  rotate_left
  · simp only [Act.put, List.setIfInBounds_toArray, List.set_cons_zero, List.set_cons_succ, i64_w, i32_w]
    rfl
  refine pure_ (i := 2) (N := some 26) (v := ?_) (a' := ?_) #[true, false, true, false, false, false, false, false, false, false, false, false, false, false, false, false, false, false, false, false, false, false] rfl rfl (any_of HT_.out (by kernel_rfl)) (fun _ _ _ h => hQp _ _ _ _ _ h) (Or.inl ⟨by rfl, ?_⟩) ?_ ?_
  rotate_left
  · intro w'
    go_simp
    with_reducible rfl
  rotate_left
  · simp only [Act.put, List.setIfInBounds_toArray, List.set_cons_zero, List.set_cons_succ, i64_w, i32_w]
    rfl
  refine pure_ (i := 6) (N := some 30) (v := ?_) (a' := ?_) #[true, false, true, false, false, false, true, false, false, false, false, false, false, false, false, false, false, false, false, false, false, false] rfl rfl (any_of HT_.out (by kernel_rfl)) (fun _ _ _ h => hQp _ _ _ _ _ h) (Or.inl ⟨by rfl, ?_⟩) ?_ ?_
  rotate_left
  · intro w'
    go_simp
    with_reducible rfl
  rotate_left
  · simp only [Act.put, List.setIfInBounds_toArray, List.set_cons_zero, List.set_cons_succ, i64_w, i32_w]
    rfl
  refine pure_ (i := 8) (N := some 32) (v := ?_) (a' := ?_) #[true, false, true, false, false, false, true, false, true, false, false, false, false, false, false, false, false, false, false, false, false, false] rfl rfl (any_of HT_.out (by kernel_rfl)) (fun _ _ _ h => hQp _ _ _ _ _ h) (Or.inl ⟨by rfl, ?_⟩) ?_ ?_
  rotate_left
  · intro w'
    go_simp
    with_reducible rfl
  rotate_left
  · simp only [Act.put, List.setIfInBounds_toArray, List.set_cons_zero, List.set_cons_succ, i64_w, i32_w]
    rfl
  refine pure_ (i := 12) (N := some 36) (v := ?_) (a' := ?_) #[true, false, true, false, false, false, true, false, true, false, false, false, true, false, false, false, false, false, false, false, false, false] rfl rfl (any_of HT_.out (by kernel_rfl)) (fun _ _ _ h => hQp _ _ _ _ _ h) (Or.inl ⟨by rfl, ?_⟩) ?_ ?_
  rotate_left
  · intro w'
    go_simp
    with_reducible rfl
  rotate_left
  · simp only [Act.put, List.setIfInBounds_toArray, List.set_cons_zero, List.set_cons_succ, i64_w, i32_w]
    rfl
  refine pure_ (i := 14) (N := some 38) (v := ?_) (a' := ?_) #[true, false, true, false, false, false, true, false, true, false, false, false, true, false, true, false, false, false, false, false, false, false] rfl rfl (any_of HT_.out (by kernel_rfl)) (fun _ _ _ h => hQp _ _ _ _ _ h) (Or.inl ⟨by rfl, ?_⟩) ?_ ?_
  rotate_left
  · intro w'
    go_simp
    with_reducible rfl
  rotate_left
  · simp only [Act.put, List.setIfInBounds_toArray, List.set_cons_zero, List.set_cons_succ, i64_w, i32_w]
    rfl
  refine take_ (i := 1) (N := some 25) (v := ?_) (a' := ?_) #[true, true, true, false, false, false, true, false, true, false, false, false, true, false, true, false, false, false, false, false, false, false] rfl rfl (take_of HT_.out (by kernel_rfl)) (fun _ _ _ h => hQp _ _ _ _ _ h) (Or.inl ⟨by rfl, ?_⟩) hHeld ?_ ?_
  rotate_left
  · intro w' hs
    obtain ⟨s0, s1, s2, s3, s4, s5⟩ := sixB hs D0 D1 (by omega) (by omega)
    go_simp
    with_reducible rfl
  rotate_left
  · simp only [Act.put, List.setIfInBounds_toArray, List.set_cons_zero, List.set_cons_succ, i64_w, i32_w]
    rfl
  refine take_ (i := 3) (N := some 27) (v := ?_) (a' := ?_) #[true, true, true, true, false, false, true, false, true, false, false, false, true, false, true, false, false, false, false, false, false, false] rfl rfl (take_of HT_.out (by kernel_rfl)) (fun _ _ _ h => hQp _ _ _ _ _ h) (Or.inl ⟨by rfl, ?_⟩) hHeld ?_ ?_
  rotate_left
  · intro w' hs
    obtain ⟨s0, s1, s2, s3, s4, s5⟩ := sixB hs D0 D1 (by omega) (by omega)
    go_simp
    with_reducible rfl
  rotate_left
  · simp only [Act.put, List.setIfInBounds_toArray, List.set_cons_zero, List.set_cons_succ, i64_w, i32_w]
    rfl
  refine take_ (i := 7) (N := some 31) (v := ?_) (a' := ?_) #[true, true, true, true, false, false, true, true, true, false, false, false, true, false, true, false, false, false, false, false, false, false] rfl rfl (take_of HT_.out (by kernel_rfl)) (fun _ _ _ h => hQp _ _ _ _ _ h) (Or.inl ⟨by rfl, ?_⟩) hHeld ?_ ?_
  rotate_left
  · intro w' hs
    obtain ⟨s0, s1, s2, s3, s4, s5⟩ := sixB hs D0 D1 (by omega) (by omega)
    go_simp
    with_reducible rfl
  rotate_left
  · simp only [Act.put, List.setIfInBounds_toArray, List.set_cons_zero, List.set_cons_succ, i64_w, i32_w]
    rfl
  refine take_ (i := 9) (N := some 33) (v := ?_) (a' := ?_) #[true, true, true, true, false, false, true, true, true, true, false, false, true, false, true, false, false, false, false, false, false, false] rfl rfl (take_of HT_.out (by kernel_rfl)) (fun _ _ _ h => hQp _ _ _ _ _ h) (Or.inl ⟨by rfl, ?_⟩) hHeld ?_ ?_
  rotate_left
  · intro w' hs
    obtain ⟨s0, s1, s2, s3, s4, s5⟩ := sixB hs D0 D1 (by omega) (by omega)
    go_simp
    with_reducible rfl
  rotate_left
  · simp only [Act.put, List.setIfInBounds_toArray, List.set_cons_zero, List.set_cons_succ, i64_w, i32_w]
    rfl
  refine take_ (i := 13) (N := some 37) (v := ?_) (a' := ?_) #[true, true, true, true, false, false, true, true, true, true, false, false, true, true, true, false, false, false, false, false, false, false] rfl rfl (take_of HT_.out (by kernel_rfl)) (fun _ _ _ h => hQp _ _ _ _ _ h) (Or.inl ⟨by rfl, ?_⟩) hHeld ?_ ?_
  rotate_left
  · intro w' hs
    obtain ⟨s0, s1, s2, s3, s4, s5⟩ := sixB hs D0 D1 (by omega) (by omega)
    go_simp
    with_reducible rfl
  rotate_left
  · simp only [Act.put, List.setIfInBounds_toArray, List.set_cons_zero, List.set_cons_succ, i64_w, i32_w]
    rfl
  refine take_ (i := 15) (N := some 39) (v := ?_) (a' := ?_) #[true, true, true, true, false, false, true, true, true, true, false, false, true, true, true, true, false, false, false, false, false, false] rfl rfl (take_of HT_.out (by kernel_rfl)) (fun _ _ _ h => hQp _ _ _ _ _ h) (Or.inl ⟨by rfl, ?_⟩) hHeld ?_ ?_
  rotate_left
  · intro w' hs
    obtain ⟨s0, s1, s2, s3, s4, s5⟩ := sixB hs D0 D1 (by omega) (by omega)
    go_simp
    with_reducible rfl
  rotate_left
  · simp only [Act.put, List.setIfInBounds_toArray, List.set_cons_zero, List.set_cons_succ, i64_w, i32_w]
    rfl
  --@S0
  simpa only [hM] using s _ _ _ _ _ _ _ hbD
set_option maxHeartbeats 16000000 in
set_option maxRecDepth 100000 in
theorem merge_any (f g : Ft) (A0 A1 A2 B0 B1 B2 : Option Addr) (a0 a1 a2 b0 b1 b2 : Nat) (w : World) (hf : FtR w A0 A1 A2 a0 a1 a2 f) (hg : FtR w B0 B1 B2 b0 b1 b2 g) (hfs : f.small) (hgs : g.small) (hfw : f.wfs) (hgw : g.wfs) :
    Calls Tryz.prog 14 #[fv A0 A1 A2 a0 a1 a2 f, fv B0 B1 B2 b0 b1 b2 g] w fun e w' => ∃ (h : Ft) (v' v0 v1 v2 : Value), e = .returned (.tuple #[v', .int .i64 (mergeC f g)]) ∧ MergeR f g h ∧ FtO w' w.heap.size v' h v0 v1 v2 ∧ Below w.heap.size w w' := by
  generalize hW : ((w.alloc (ftO A0 A1 A2 a0 a1 a2 f)).alloc (ftO B0 B1 B2 b0 b1 b2 g)).alloc zFt = w1
  have hB1 : Below w.heap.size w w1 := by rw [← hW]; exact below_alloc (below_alloc (below_alloc (Below.refl _ _) _) _) _
  have d0 : w1.heap[w.heap.size]? = some (ftO A0 A1 A2 a0 a1 a2 f) := by rw [← hW]; exact heap_old (heap_old (heap_new _ _))
  have d1 : w1.heap[w.heap.size + 1]? = some (ftO B0 B1 B2 b0 b1 b2 g) := by rw [← hW]; have := heap_new (w.alloc (ftO A0 A1 A2 a0 a1 a2 f)) (ftO B0 B1 B2 b0 b1 b2 g); rw [size_new] at this; exact heap_old this
  have d2 : w1.heap[w.heap.size + 1 + 1]? = some zFt := by rw [← hW]; have := heap_new ((w.alloc (ftO A0 A1 A2 a0 a1 a2 f)).alloc (ftO B0 B1 B2 b0 b1 b2 g)) zFt; rw [size_new, size_new] at this; exact this
  have HF0 := Aside0.mk (show ∀ W, Below w1.heap.size w1 W → Kd.C k37 W A0 f.ps.length f.ps from fun W h => Kd.C_below hf.h0 (below_step hB1 h))
  have HF1 := Aside0.mk (show ∀ W, Below w1.heap.size w1 W → Kd.C k46 W A1 f.ss.length f.ss from fun W h => Kd.C_below hf.h1 (below_step hB1 h))
  have HF2 := Aside0.mk (show ∀ W, Below w1.heap.size w1 W → Kd.C k37 W A2 f.ws.length f.ws from fun W h => Kd.C_below hf.h2 (below_step hB1 h))
  have HG0 := Aside0.mk (show ∀ W, Below w1.heap.size w1 W → Kd.C k37 W B0 g.ps.length g.ps from fun W h => Kd.C_below hg.h0 (below_step hB1 h))
  have HG1 := Aside0.mk (show ∀ W, Below w1.heap.size w1 W → Kd.C k46 W B1 g.ss.length g.ss from fun W h => Kd.C_below hg.h1 (below_step hB1 h))
  have HG2 := Aside0.mk (show ∀ W, Below w1.heap.size w1 W → Kd.C k37 W B2 g.ws.length g.ws from fun W h => Kd.C_below hg.h2 (below_step hB1 h))
  obtain ⟨ef, hef⟩ : ∃ e, e = checkS f := ⟨_, rfl⟩
  obtain ⟨eg, heg⟩ : ∃ e, e = checkS g := ⟨_, rfl⟩
  obtain ⟨lf, hlf⟩ : ∃ e, e = f.len := ⟨_, rfl⟩
  obtain ⟨lg, hlg⟩ : ∃ e, e = g.len := ⟨_, rfl⟩
  obtain ⟨er, her⟩ : ∃ e, e = if ef = 0 then eg else ef := ⟨_, rfl⟩
  have HKF := Aside0.mk (show ∀ W, Below w1.heap.size w1 W → Calls Tryz.prog 11 #[.agg #[.slice A0 f.ps.length a0, .slice A1 f.ss.length a1, .slice A2 f.ws.length a2]] W fun e w' => e = .returned (.int .i64 ef) ∧ Below W.heap.size W w' from fun W h => by rw [hef]; exact checkV ⟨A0, A1, A2, a0, a1, a2, rfl, hf.below (below_step hB1 h)⟩ hfs)
  have HKG := Aside0.mk (show ∀ W, Below w1.heap.size w1 W → Calls Tryz.prog 11 #[.agg #[.slice B0 g.ps.length b0, .slice B1 g.ss.length b1, .slice B2 g.ws.length b2]] W fun e w' => e = .returned (.int .i64 eg) ∧ Below W.heap.size W w' from fun W h => by rw [heg]; exact checkV ⟨B0, B1, B2, b0, b1, b2, rfl, hg.below (below_step hB1 h)⟩ hgs)
  have HSF := Aside0.mk (show ∀ W, Below w1.heap.size w1 W → Calls Tryz.prog 25 #[.agg #[.slice A0 f.ps.length a0, .slice A1 f.ss.length a1, .slice A2 f.ws.length a2]] W fun e w' => e = .returned (.int .i64 (lf : Int)) ∧ Below W.heap.size W w' from fun W h => by rw [hlf]; exact sizeV ⟨A0, A1, A2, a0, a1, a2, rfl, hf.below (below_step hB1 h)⟩ hfs)
  have HSG := Aside0.mk (show ∀ W, Below w1.heap.size w1 W → Calls Tryz.prog 25 #[.agg #[.slice B0 g.ps.length b0, .slice B1 g.ss.length b1, .slice B2 g.ws.length b2]] W fun e w' => e = .returned (.int .i64 (lg : Int)) ∧ Below W.heap.size W w' from fun W h => by rw [hlg]; exact sizeV ⟨B0, B1, B2, b0, b1, b2, rfl, hg.below (below_step hB1 h)⟩ hgs)
  have HOr := Aside0.mk (show ∀ (W : World) (bx : Nat), W.heap[bx]? = some (.cells #[.int .i64 ef, .int .i64 eg] 26 (0, 0)) → Calls Tryz.prog 31 #[.slice (some ⟨bx, 0, none⟩) 2 2] W fun e w' => e = .returned (.int .i64 er) ∧ Below W.heap.size W w' from fun W bx hx => by
    obtain ⟨k, hk⟩ := (orE_ev ef eg).ex
    rw [her]
    exact (api_Errno.calls k (some ⟨bx, 0, none⟩) 2 [ef, eg] _ W (C_errs (l := [ef, eg]) hx) (Nat.le_refl _) hk).mono fun e w' h => ⟨h.1, h.2.below⟩)
  have HCode := Aside0.mk (show mergeC f g = (if er = 0 then (if lf + lg > 65536 then 2 else 0) else er) by rw [her, hef, heg, hlf, hlg]; exact merge_err)
  have HOk := Aside0.mk (show er = 0 → lf ≤ 65536 ∧ lg ≤ 65536 from fun h => by
    rw [her] at h
    by_cases h0 : ef = 0
    · rw [if_pos h0] at h
      have l0 := check_len (hef.symm.trans h0)
      have l1 := check_len (heg.symm.trans h)
      rw [hlf, hlg]
      exact ⟨l0, l1⟩
    · rw [if_neg h0] at h; exact absurd h h0)
  have HLen := Aside0.mk (show lf = f.ps.length + f.ss.length + f.ws.length ∧ lg = g.ps.length + g.ss.length + g.ws.length from ⟨hlf, hlg⟩)
  have HWf := Aside0.mk (app_wfs hfw hgw)
  have HB1 := Aside0.mk hB1
  have D0 := Aside0.mk d0
  have D1 := Aside0.mk d1
  have D2 := Aside0.mk d2
  unfold ftO at hW D0 D1
  unfold zFt at hW D2
  have HW := Aside0.mk hW
  have HNO := Aside0.mk (show ∀ (W : World) (C0 C1 C2 : Option Addr) (c0 c1 c2 : Nat), lf + lg ≤ 65536 → Kd.R k37 37 W w1.heap.size (fun _ => True) (.slice C0 (f.ps.length + g.ps.length) c0) (f.ps ++ g.ps) → Kd.R k46 46 W w1.heap.size (fun _ => True) (.slice C1 (f.ss.length + g.ss.length) c1) (f.ss ++ g.ss) → Kd.R k37 37 W w1.heap.size (fun _ => True) (.slice C2 (f.ws.length + g.ws.length) c2) (f.ws ++ g.ws) →
    Calls Tryz.prog 20 #[.agg #[.slice C0 (f.ps.length + g.ps.length) c0, .slice C1 (f.ss.length + g.ss.length) c1, .slice C2 (f.ws.length + g.ws.length) c2]] W fun e w' => ∃ (h : Ft) (pl : List SPl) (v v0 v1 v2 : Value), e = .returned v ∧ NormOf (f.app g) h pl ∧ FtO w' W.heap.size v h v0 v1 v2 ∧ Below W.heap.size W w' from fun W C0 C1 C2 c0 c1 c2 hl h0 h1 h2 => by
      have hn := app_len (f := f) (g := g) (by rw [← hlf, ← hlg]; exact hl)
      have r0 := (Kd.R_reads' h0).2
      have r1 := (Kd.R_reads' h1).2
      have r2 := (Kd.R_reads' h2).2
      rw [← List.length_append] at r0 r1 r2 ⊢
      rw [← List.length_append, ← List.length_append]
      exact norm_any (f.app g) C0 C1 C2 c0 c1 c2 W ⟨r0.2, r0.1, r1.2, r1.1, r2.2, r2.1⟩ (app_wfs hfw hgw).1 (app_wfs hfw hgw).2 hn)
  clear hW hB1 d0 d1 d2 hf hg hfs hgs hfw hgw hef heg hlf hlg her
  have hl3 := HLen.out
  unfold fv
  generalize f.ps = fp at *
  generalize f.ss = fs at *
  generalize f.ws = fw at *
  generalize g.ps = gp at *
  generalize g.ss = gs at *
  generalize g.ws = gw at *
  generalize hm0 : fp.length = m0 at *
  generalize hm1 : fs.length = m1 at *
  generalize hm2 : fw.length = m2 at *
  generalize hn0 : gp.length = n0 at *
  generalize hn1 : gs.length = n1 at *
  generalize hn2 : gw.length = n2 at *
  have HM := Aside0.mk (show (m0 = fp.length ∧ m1 = fs.length ∧ m2 = fw.length) ∧ n0 = gp.length ∧ n1 = gs.length ∧ n2 = gw.length from ⟨⟨hm0.symm, hm1.symm, hm2.symm⟩, hn0.symm, hn1.symm, hn2.symm⟩)
  clear hm0 hm1 hm2 hn0 hn1 hn2 hl3
  have HSl := Aside0.mk (allSl (a := .slice none 0 0) (b := .slice none 0 0) (c := .slice none 0 0) rfl rfl rfl)
  go_enter Tryz.func14, Tryz.ntmps14
  --@A
  go_wp2_with fail
  rw [HW.out]
  clear HW
  have hbD := below_drew1 (Below.refl w1.heap.size w1)
  refine start_ (n := 7) (S := fun w' => w'.cell? ⟨w.heap.size, 0, none⟩ = some (.slice A0 m0 a0) ∧ w'.cell? ⟨w.heap.size, 1, none⟩ = some (.slice A1 m1 a1) ∧ w'.cell? ⟨w.heap.size, 2, none⟩ = some (.slice A2 m2 a2) ∧ w'.cell? ⟨w.heap.size + 1, 0, none⟩ = some (.slice B0 n0 b0) ∧ w'.cell? ⟨w.heap.size + 1, 1, none⟩ = some (.slice B1 n1 b1) ∧ w'.cell? ⟨w.heap.size + 1, 2, none⟩ = some (.slice B2 n2 b2)) (ds := []) #[false, false, false, false, false, false, false] (by kernel_rfl) rfl rfl (six hbD D0.out D1.out) (fun hHeld => ?_); refine with_tab tab14_1 (fun HT_ => ?_)
  generalize w1.drew = w2 at hbD hHeld ⊢
  have HC2 := Aside0.mk hbD
  clear hbD
  refine take_ (i := 0) (N := some 7) (v := ?_) (a' := ?_) #[true, false, false, false, false, false, false] rfl rfl (take_of HT_.out (by kernel_rfl)) (fun _ _ _ h => h) (Or.inl ⟨by rfl, ?_⟩) hHeld ?_ ?_
  rotate_left
  · rintro w' ⟨s0, s1, s2, s3, s4, s5⟩
    go_simp
    with_reducible rfl
  rotate_left
  · simp only [Act.put, List.setIfInBounds_toArray, List.set_cons_zero, List.set_cons_succ, i64_w, i32_w]
    rfl
  refine take_ (i := 2) (N := some 9) (v := ?_) (a' := ?_) #[true, false, true, false, false, false, false] rfl rfl (take_of HT_.out (by kernel_rfl)) (fun _ _ _ h => h) (Or.inl ⟨by rfl, ?_⟩) hHeld ?_ ?_
  rotate_left
  · rintro w' ⟨s0, s1, s2, s3, s4, s5⟩
    go_simp
    with_reducible rfl
  rotate_left
  · simp only [Act.put, List.setIfInBounds_toArray, List.set_cons_zero, List.set_cons_succ, i64_w, i32_w]
    rfl
  refine one_ (i := 1) (N := some 8) #[true, true, true, false, false, false, false] rfl rfl (one_of HT_.out (by kernel_rfl)) (by decide) (fun K hK => ?_)
  refine goes_ Tryz.func11 (by kernel_rfl) rfl #[.agg #[.slice A0 m0 a0, .slice A1 m1 a1, .slice A2 m2 a2]] (by rfl) rfl rfl (by (try simp only [List.map_toArray, List.map_cons, List.map_nil]); first | done | rfl) ?_
  refine (HKF.out w2 HC2.out).mono ?_
  rintro e w3 ⟨rfl, hb⟩
  refine ⟨_, rfl, ?_⟩
  have HC3 := Aside0.mk (below_step HC2.out hb)
  clear hb hHeld
  refine hK.out _ _ (six HC3.out D0.out D1.out) (fun hHeld => ?_)
  clear hK K
  refine norm_ (a' := ?_) ?_ ?_
  rotate_left
  · show Act.put _ (some 8) _ = _
    simp only [Act.put, List.setIfInBounds_toArray, List.set_cons_zero, List.set_cons_succ, i64_w, i32_w]
    rfl
  refine one_ (i := 3) (N := some 10) #[true, true, true, true, false, false, false] rfl rfl (one_of HT_.out (by kernel_rfl)) (by decide) (fun K hK => ?_)
  refine goes_ Tryz.func11 (by kernel_rfl) rfl #[.agg #[.slice B0 n0 b0, .slice B1 n1 b1, .slice B2 n2 b2]] (by rfl) rfl rfl (by (try simp only [List.map_toArray, List.map_cons, List.map_nil]); first | done | rfl) ?_
  refine (HKG.out w3 HC3.out).mono ?_
  rintro e w4 ⟨rfl, hb⟩
  refine ⟨_, rfl, ?_⟩
  have HC4 := Aside0.mk (below_step HC3.out hb)
  clear hb hHeld
  refine hK.out _ _ (six HC4.out D0.out D1.out) (fun hHeld => ?_)
  clear hK K
  refine norm_ (a' := ?_) ?_ ?_
  rotate_left
  · show Act.put _ (some 10) _ = _
    simp only [Act.put, List.setIfInBounds_toArray, List.set_cons_zero, List.set_cons_succ, i64_w, i32_w]
    rfl
  refine one_ (i := 4) (N := some 11) #[true, true, true, true, true, false, false] rfl rfl (one_of HT_.out (by kernel_rfl)) (by decide) (fun K hK => ?_)
  have hbA := below_alloc (Below.refl w4.heap.size w4) (.cells #[.int .i64 ef, .int .i64 eg] 26)
  have hNw := heap_new w4 (.cells #[.int .i64 ef, .int .i64 eg] 26)
  refine value_ (w1 := ?_) (v := ?_) (by rfl) rfl ?_ ?_
  rotate_left
  rotate_left
  · go_simp
    constructor
    · rfl
    · rfl
  show K _ (w4.alloc (.cells #[.int .i64 ef, .int .i64 eg] 26))
  have hb := hbA
  have HC5 := Aside0.mk (below_step HC4.out hb)
  generalize hbx : w4.heap.size = bx at hNw hb ⊢
  generalize w4.alloc (.cells #[.int .i64 ef, .int .i64 eg] 26) = w5 at hNw hb HC5 ⊢
  have HNw := Aside0.mk hNw
  clear hbA hbx hNw hb hHeld
  refine hK.out _ _ (six HC5.out D0.out D1.out) (fun hHeld => ?_)
  clear hK K
  refine norm_ (a' := ?_) ?_ ?_
  rotate_left
  · show Act.put _ (some 11) _ = _
    simp only [Act.put, List.setIfInBounds_toArray, List.set_cons_zero, List.set_cons_succ, i64_w, i32_w]
    rfl
  refine one_ (i := 5) (N := some 12) #[true, true, true, true, true, true, false] rfl rfl (one_of HT_.out (by kernel_rfl)) (by decide) (fun K hK => ?_)
  refine goes_ Tryz.func31 (by kernel_rfl) rfl #[.slice (some ⟨bx, 0, none⟩) 2 2] (by rfl) rfl rfl (by (try simp only [List.map_toArray, List.map_cons, List.map_nil]); first | done | rfl) ?_
  refine (HOr.out w5 bx HNw.out).mono ?_
  rintro e w6 ⟨rfl, hb⟩
  refine ⟨_, rfl, ?_⟩
  have HC6 := Aside0.mk (below_step HC5.out hb)
  clear hb hHeld
  refine hK.out _ _ (six HC6.out D0.out D1.out) (fun hHeld => ?_)
  clear hK K
  refine norm_ (a' := ?_) ?_ ?_
  rotate_left
  · show Act.put _ (some 12) _ = _
    simp only [Act.put, List.setIfInBounds_toArray, List.set_cons_zero, List.set_cons_succ, i64_w, i32_w]
    rfl
  refine pure_ (i := 6) (N := some 6) (v := ?_) (a' := ?_) #[true, true, true, true, true, true, true] rfl rfl (any_of HT_.out (by kernel_rfl)) (fun _ _ _ h => h) (Or.inl ⟨by rfl, ?_⟩) ?_ ?_
  rotate_left
  · intro w'
    go_simp
    with_reducible rfl
  rotate_left
  · simp only [Act.put, List.setIfInBounds_toArray, List.set_cons_zero, List.set_cons_succ, i64_w, i32_w]
    rfl
  refine done_ (done_of HT_.out (by kernel_rfl)) ?_
  clear hHeld HT_ HKF HKG HOr HNw
  --@B
  by_cases hc : er = 0
  · subst hc
    have hlo := HOk.out rfl
    have hlf : lf ≤ 65536 := hlo.1
    have hlg : lg ≤ 65536 := hlo.2
    have hcode := HCode.out
    rw [if_pos rfl] at hcode
    have HCo := Aside0.mk hcode
    clear hlo hcode HCode HOk
    go_wp2_with fail
    --@C
    have hbD := below_step HC6.out (below_drew1 (Below.refl w6.heap.size w6))
    refine start_ (n := 6) (S := fun w' => w'.cell? ⟨w.heap.size, 0, none⟩ = some (.slice A0 m0 a0) ∧ w'.cell? ⟨w.heap.size, 1, none⟩ = some (.slice A1 m1 a1) ∧ w'.cell? ⟨w.heap.size, 2, none⟩ = some (.slice A2 m2 a2) ∧ w'.cell? ⟨w.heap.size + 1, 0, none⟩ = some (.slice B0 n0 b0) ∧ w'.cell? ⟨w.heap.size + 1, 1, none⟩ = some (.slice B1 n1 b1) ∧ w'.cell? ⟨w.heap.size + 1, 2, none⟩ = some (.slice B2 n2 b2)) (ds := []) #[false, false, false, false, false, false] (by kernel_rfl) rfl rfl (six hbD D0.out D1.out) (fun hHeld => ?_); refine with_tab tab14_4 (fun HT_ => ?_)
    generalize w6.drew = w7 at hbD hHeld ⊢
    have HC7 := Aside0.mk hbD
    clear hbD
    refine take_ (i := 0) (N := some 17) (v := ?_) (a' := ?_) #[true, false, false, false, false, false] rfl rfl (take_of HT_.out (by kernel_rfl)) (fun _ _ _ h => h) (Or.inl ⟨by rfl, ?_⟩) hHeld ?_ ?_
    rotate_left
    · rintro w' ⟨s0, s1, s2, s3, s4, s5⟩
      go_simp
      with_reducible rfl
    rotate_left
    · simp only [Act.put, List.setIfInBounds_toArray, List.set_cons_zero, List.set_cons_succ, i64_w, i32_w]
      rfl
    refine take_ (i := 2) (N := some 19) (v := ?_) (a' := ?_) #[true, false, true, false, false, false] rfl rfl (take_of HT_.out (by kernel_rfl)) (fun _ _ _ h => h) (Or.inl ⟨by rfl, ?_⟩) hHeld ?_ ?_
    rotate_left
    · rintro w' ⟨s0, s1, s2, s3, s4, s5⟩
      go_simp
      with_reducible rfl
    rotate_left
    · simp only [Act.put, List.setIfInBounds_toArray, List.set_cons_zero, List.set_cons_succ, i64_w, i32_w]
      rfl
    refine one_ (i := 1) (N := some 18) #[true, true, true, false, false, false] rfl rfl (one_of HT_.out (by kernel_rfl)) (by decide) (fun K hK => ?_)
    refine goes_ Tryz.func25 (by kernel_rfl) rfl #[.agg #[.slice A0 m0 a0, .slice A1 m1 a1, .slice A2 m2 a2]] (by rfl) rfl rfl (by (try simp only [List.map_toArray, List.map_cons, List.map_nil]); first | done | rfl) ?_
    refine (HSF.out w7 HC7.out).mono ?_
    rintro e w8 ⟨rfl, hb⟩
    refine ⟨_, rfl, ?_⟩
    have HC8 := Aside0.mk (below_step HC7.out hb)
    clear hb hHeld
    refine hK.out _ _ (six HC8.out D0.out D1.out) (fun hHeld => ?_)
    clear hK K
    refine norm_ (a' := ?_) ?_ ?_
    rotate_left
    · show Act.put _ (some 18) _ = _
      simp only [Act.put, List.setIfInBounds_toArray, List.set_cons_zero, List.set_cons_succ, i64_w, i32_w]
      rfl
    refine one_ (i := 3) (N := some 20) #[true, true, true, true, false, false] rfl rfl (one_of HT_.out (by kernel_rfl)) (by decide) (fun K hK => ?_)
    refine goes_ Tryz.func25 (by kernel_rfl) rfl #[.agg #[.slice B0 n0 b0, .slice B1 n1 b1, .slice B2 n2 b2]] (by rfl) rfl rfl (by (try simp only [List.map_toArray, List.map_cons, List.map_nil]); first | done | rfl) ?_
    refine (HSG.out w8 HC8.out).mono ?_
    rintro e w9 ⟨rfl, hb⟩
    refine ⟨_, rfl, ?_⟩
    have HC9 := Aside0.mk (below_step HC8.out hb)
    clear hb hHeld
    refine hK.out _ _ (six HC9.out D0.out D1.out) (fun hHeld => ?_)
    clear hK K
    refine norm_ (a' := ?_) ?_ ?_
    rotate_left
    · show Act.put _ (some 20) _ = _
      simp only [Act.put, List.setIfInBounds_toArray, List.set_cons_zero, List.set_cons_succ, i64_w, i32_w]
      rfl
    refine pure_ (i := 4) (N := some 21) (v := ?_) (a' := ?_) #[true, true, true, true, true, false] rfl rfl (any_of HT_.out (by kernel_rfl)) (fun _ _ _ h => h) (Or.inl ⟨by rfl, ?_⟩) ?_ ?_
    rotate_left
    · intro w'
      go_simp
      with_reducible rfl
    rotate_left
    · simp only [Act.put, List.setIfInBounds_toArray, List.set_cons_zero, List.set_cons_succ, i64_w, i32_w]
      rfl
    refine pure_ (i := 5) (N := some 22) (v := ?_) (a' := ?_) #[true, true, true, true, true, true] rfl rfl (any_of HT_.out (by kernel_rfl)) (fun _ _ _ h => h) (Or.inl ⟨by rfl, ?_⟩) ?_ ?_
    rotate_left
    · intro w'
      go_simp
      with_reducible rfl
    rotate_left
    · simp only [Act.put, List.setIfInBounds_toArray, List.set_cons_zero, List.set_cons_succ, i64_w, i32_w]
      rfl
    refine done_ (done_of HT_.out (by kernel_rfl)) ?_
    clear hHeld HT_ HSF HSG
    rw [wrap64_id (n := (lf : Int) + (lg : Int)) (by omega) (by omega)]
    --@D
    by_cases hc : lf + lg > 65536
    · have hcz : (65536 : Int) < (lf : Int) + (lg : Int) := by omega
      have hcode := HCo.out
      rw [if_pos hc] at hcode
      clear HCo
      have HCo := Aside0.mk hcode
      clear hcode
      have HX9 := Aside0.mk ((HC9.out.block _ (lt_of D2.out)).trans D2.out)
      have j0 : w9.cell? ⟨w.heap.size + 1 + 1, 0, none⟩ = some (.slice none 0 0) := cell_of HX9.out 0
      have j1 : w9.cell? ⟨w.heap.size + 1 + 1, 1, none⟩ = some (.slice none 0 0) := cell_of HX9.out 1
      have j2 : w9.cell? ⟨w.heap.size + 1 + 1, 2, none⟩ = some (.slice none 0 0) := cell_of HX9.out 2
      have k0 : w9.frozen? ⟨w.heap.size + 1 + 1, 0, none⟩ = false := frozen_of HX9.out 0
      have k1 : w9.frozen? ⟨w.heap.size + 1 + 1, 1, none⟩ = false := frozen_of HX9.out 1
      have k2 : w9.frozen? ⟨w.heap.size + 1 + 1, 2, none⟩ = false := frozen_of HX9.out 2
      have HB9 := Aside0.mk (below_step HB1.out HC9.out)
      go_wp2
      refine bodyPost_ret (results_ct rfl _ _ (w.heap.size + 1 + 1) 25 #[.slice none 0 0, .slice none 0 0, .slice none 0 0] (0, 0) _ rfl (setCell_heap (setCell_heap (setCell_heap HX9.out _) _) _) Tryz.underlying25 rfl (by kernel_rfl)) rfl ?_
      have hb : Below w.heap.size w (((w9.setCell ⟨w.heap.size + 1 + 1, 0, none⟩ (.slice none 0 0)).setCell ⟨w.heap.size + 1 + 1, 1, none⟩ (.slice none 0 0)).setCell ⟨w.heap.size + 1 + 1, 2, none⟩ (.slice none 0 0)) := ((HB9.out.setCell (p := ⟨w.heap.size + 1 + 1, 0, none⟩) (by show w.heap.size ≤ w.heap.size + 1 + 1; omega) _).setCell (p := ⟨w.heap.size + 1 + 1, 1, none⟩) (by show w.heap.size ≤ w.heap.size + 1 + 1; omega) _).setCell (p := ⟨w.heap.size + 1 + 1, 2, none⟩) (by show w.heap.size ≤ w.heap.size + 1 + 1; omega) _
      exact ⟨Ft.nil, _, _, _, _, (by rw [HCo.out]; rfl), .inr ⟨by rw [HCo.out]; decide, rfl⟩, FtO.nil _ _, hb⟩
    · have hcz : ¬ (65536 : Int) < (lf : Int) + (lg : Int) := by omega
      have hcode := HCo.out
      rw [if_neg hc] at hcode
      clear HCo
      have HCo := Aside0.mk hcode
      have HCl := Aside0.mk (Nat.le_of_not_lt hc)
      clear hcode hc
      go_wp2_with fail
      --@E
      refine merge_reg (t2 := undef) (t3 := undef) (t4 := undef) HM.out HLen.out HCl.out HNO.out HF0.out HF1.out HF2.out HG0.out HG1.out HG2.out D0.out D1.out D2.out (HC9.out) (fun _ _ d _ _ h => by cases d <;> exact h) (fun w10 h pl C0 C1 C2 c0 c1 c2 x24 x25 x26 x27 x28 x29 x30 x31 x32 x33 x34 x35 x36 x37 x38 x39 x40 x41 x42 x43 hno ho hc hx3 => ?_)
      have HO := Aside0.mk ho
      have HNo := Aside0.mk hno
      have HX := Aside0.mk hx3
      have HC := Aside0.mk hc
      clear ho hno hx3 hc
      --@G
      go_wp2
      refine bodyPost_ret (results_ct rfl _ _ (w.heap.size + 1 + 1) 25 #[.slice C0 h.ps.length c0, .slice C1 h.ss.length c1, .slice C2 h.ws.length c2] (0, 0) _ rfl HX.out Tryz.underlying25 rfl (by kernel_rfl)) rfl ?_
      exact ⟨h, _, _, _, _, (by rw [HCo.out]; rfl), .inl ⟨HCo.out, pl, HNo.out⟩, HO.out.lower (HB1.out.size), Below.trans HB1.out HC.out⟩
  · have hcode := HCode.out
    rw [if_neg hc] at hcode
    have hcb : (er == 0) = false := by simpa using hc
    have HCo := Aside0.mk hcode
    clear hcode
    have HX6 := Aside0.mk ((HC6.out.block _ (lt_of D2.out)).trans D2.out)
    have j0 : w6.cell? ⟨w.heap.size + 1 + 1, 0, none⟩ = some (.slice none 0 0) := cell_of HX6.out 0
    have j1 : w6.cell? ⟨w.heap.size + 1 + 1, 1, none⟩ = some (.slice none 0 0) := cell_of HX6.out 1
    have j2 : w6.cell? ⟨w.heap.size + 1 + 1, 2, none⟩ = some (.slice none 0 0) := cell_of HX6.out 2
    have k0 : w6.frozen? ⟨w.heap.size + 1 + 1, 0, none⟩ = false := frozen_of HX6.out 0
    have k1 : w6.frozen? ⟨w.heap.size + 1 + 1, 1, none⟩ = false := frozen_of HX6.out 1
    have k2 : w6.frozen? ⟨w.heap.size + 1 + 1, 2, none⟩ = false := frozen_of HX6.out 2
    have HB6 := Aside0.mk (below_step HB1.out HC6.out)
    go_wp2
    refine bodyPost_ret (results_ct rfl _ _ (w.heap.size + 1 + 1) 25 #[.slice none 0 0, .slice none 0 0, .slice none 0 0] (0, 0) _ rfl (setCell_heap (setCell_heap (setCell_heap HX6.out _) _) _) Tryz.underlying25 rfl (by kernel_rfl)) rfl ?_
    have hb : Below w.heap.size w (((w6.setCell ⟨w.heap.size + 1 + 1, 0, none⟩ (.slice none 0 0)).setCell ⟨w.heap.size + 1 + 1, 1, none⟩ (.slice none 0 0)).setCell ⟨w.heap.size + 1 + 1, 2, none⟩ (.slice none 0 0)) := ((HB6.out.setCell (p := ⟨w.heap.size + 1 + 1, 0, none⟩) (by show w.heap.size ≤ w.heap.size + 1 + 1; omega) _).setCell (p := ⟨w.heap.size + 1 + 1, 1, none⟩) (by show w.heap.size ≤ w.heap.size + 1 + 1; omega) _).setCell (p := ⟨w.heap.size + 1 + 1, 2, none⟩) (by show w.heap.size ≤ w.heap.size + 1 + 1; omega) _
    exact ⟨Ft.nil, _, _, _, _, (by rw [HCo.out]; rfl), .inr ⟨by rw [HCo.out]; exact hc, rfl⟩, FtO.nil _ _, hb⟩
/-- Merge of both, at feet as_ values. -/
theorem mergeV {w : World} {v u : Value} {f g : Ft} (hf : FtV w v f) (hg : FtV w u g) (hfs : f.small) (hgs : g.small) (hfw : f.wfs) (hgw : g.wfs) : Calls Tryz.prog 14 #[v, u] w fun e w' => ∃ (h : Ft) (v' v0 v1 v2 : Value), e = .returned (.tuple #[v', .int .i64 (mergeC f g)]) ∧ MergeR f g h ∧ FtO w' w.heap.size v' h v0 v1 v2 ∧ Below w.heap.size w w' := by
  obtain ⟨A0, A1, A2, a0, a1, a2, rfl, hf⟩ := hf
  obtain ⟨B0, B1, B2, b0, b1, b2, rfl, hg⟩ := hg
  exact merge_any f g A0 A1 A2 B0 B1 B2 a0 a1 a2 b0 b1 b2 w hf hg hfs hgs hfw hgw
/-- A foot that is told, its slices spelled. -/
def FtL (w : World) (v : Value) (f : Ft) : Prop := ∃ C0 C1 C2 n0 n1 n2 c0 c1 c2, v = .agg #[.slice C0 n0 c0, .slice C1 n1 c1, .slice C2 n2 c2] ∧ FtV w v f
theorem FtV.L {w : World} {v : Value} {f : Ft} (h : FtV w v f) : FtL w v f := by
  obtain ⟨C0, C1, C2, c0, c1, c2, e, _⟩ := id h
  exact ⟨C0, C1, C2, _, _, _, c0, c1, c2, e, h⟩
/-- A foot in a box of its own. -/
def BoxF (w : World) (b : Nat) (v : Value) (h : Ft) : Prop := ∃ C0 C1 C2 n0 n1 n2 c0 c1 c2, v = .agg #[.slice C0 n0 c0, .slice C1 n1 c1, .slice C2 n2 c2] ∧ w.heap[b]? = some (.cells #[.slice C0 n0 c0, .slice C1 n1 c1, .slice C2 n2 c2] 25 (0, 0)) ∧ FtV w v h
theorem BoxF.keep {w w' : World} {b : Nat} {v : Value} {h : Ft} (hx : BoxF w b v h) (hb : Below w.heap.size w w') : BoxF w' b v h := by
  obtain ⟨C0, C1, C2, n0, n1, n2, c0, c1, c2, rfl, e, hv⟩ := hx
  exact ⟨C0, C1, C2, n0, n1, n2, c0, c1, c2, rfl, (hb.block _ (lt_of e)).trans e, hv.below hb⟩
/-- What Merge told. -/
def MergedV (w : World) (x : Value) (f g h : Ft) : Prop := ∃ C0 C1 C2 n0 n1 n2 c0 c1 c2, x = .tuple #[.agg #[.slice C0 n0 c0, .slice C1 n1 c1, .slice C2 n2 c2], .int .i64 (mergeC f g)] ∧ MergeR f g h ∧ FtV w (.agg #[.slice C0 n0 c0, .slice C1 n1 c1, .slice C2 n2 c2]) h
theorem MergedV.keep {w w' : World} {x : Value} {f g h : Ft} (hx : MergedV w x f g h) (hb : Below w.heap.size w w') : MergedV w' x f g h := by
  obtain ⟨C0, C1, C2, n0, n1, n2, c0, c1, c2, rfl, hr, hv⟩ := hx
  exact ⟨C0, C1, C2, n0, n1, n2, c0, c1, c2, rfl, hr, hv.below hb⟩
def Zb (w : World) (b : Nat) (x : Value) : Prop := ∃ bo, x = .pointer (some ⟨bo, 0, none⟩) ∧ b ≤ bo ∧ w.heap[bo]? = some (.cells #[.slice none 0 0, .slice none 0 0, .slice none 0 0] 25 (0, 0))
theorem Zb.keep {w w' : World} {b : Nat} {x : Value} (hx : Zb w b x) (hb : Below w.heap.size w w') : Zb w' b x := by
  obtain ⟨bo, rfl, hl, e⟩ := hx
  exact ⟨bo, rfl, hl, (hb.block _ (lt_of e)).trans e⟩
def T6_1 : Bool × List (List Nat × List Nat) := (true, [([], []), ([0], [0]), ([], []), ([2, 1], [2]), ([], []), ([], []), ([4, 1, 3, 0, 1, 4, 5], [1, 4]), ([5, 3, 6, 0, 1, 2, 3, 4, 5, 6], [3, 5])])
theorem tab6_1 : rtab .any (opsOf Tryz.f6 1) = T6_1 := by kernel_rfl
theorem FtL.keep {w w' : World} {v : Value} {f : Ft} (h : FtL w v f) (hb : Below w.heap.size w w') : FtL w' v f := by
  obtain ⟨C0, C1, C2, n0, n1, n2, c0, c1, c2, e, h⟩ := h
  exact ⟨C0, C1, C2, n0, n1, n2, c0, c1, c2, e, h.below hb⟩
theorem copyL {w : World} {v : Value} {f : Ft} (h : FtV w v f) (hs : f.small) : Calls Tryz.prog 8 #[v] w fun e w' => ∃ v', e = .returned v' ∧ FtL w' v' f ∧ Below w.heap.size w w' :=
  (copyV h hs).mono fun e w' ⟨v', e1, h1, h2⟩ => ⟨v', e1, h1.L, h2⟩
/-- A row that may be written: its cells are there, in one block, none frozen. -/
def Sh (w : World) (lo hi : Nat) (A : Option Addr) (n C : Nat) : Prop := 0 < n → ∃ g, A = some ⟨g, 0, none⟩ ∧ lo ≤ g ∧ g < hi ∧ ∀ k, k < n → ∀ j, j < C → (∃ u, w.cell? ⟨g, k * C + j, none⟩ = some u) ∧ w.frozen? ⟨g, k * C + j, none⟩ = false
theorem Sh.below {w w' : World} {lo hi n C : Nat} {A : Option Addr} (h : Sh w lo hi A n C) (hb : Below w.heap.size w w') : Sh w' lo hi A n C := fun hn => by
  obtain ⟨g, e, h1, h2, h3⟩ := h hn
  refine ⟨g, e, h1, h2, fun k hk j hj => ?_⟩
  obtain ⟨⟨u, hu⟩, hf⟩ := h3 k hk j hj
  have hlt := World.block_lt_of_cell? _ _ hu
  exact ⟨⟨u, (hb.cell hlt).trans hu⟩, by have := hb.block g hlt; simpa [World.frozen?, this] using hf⟩
theorem Sh.set {w : World} {lo hi n C : Nat} {A : Option Addr} (h : Sh w lo hi A n C) (p : Addr) (x : Value) : Sh (w.setCell p x) lo hi A n C := fun hn => by
  obtain ⟨g, e, h1, h2, h3⟩ := h hn
  refine ⟨g, e, h1, h2, fun k hk j hj => ?_⟩
  obtain ⟨⟨u, hu⟩, hf⟩ := h3 k hk j hj
  exact ⟨cell?_setCell_some hu, by rw [World.frozen?_setCell]; exact hf⟩
theorem Sh.mono {w : World} {lo hi lo' hi' n C : Nat} {A : Option Addr} (h : Sh w lo hi A n C) (hl : lo' ≤ lo) (hh : hi ≤ hi') : Sh w lo' hi' A n C := fun hn => by
  obtain ⟨g, e, h1, h2, h3⟩ := h hn
  exact ⟨g, e, Nat.le_trans hl h1, Nat.lt_of_lt_of_le h2 hh, h3⟩
theorem Sh.of_own {α : Type} {enc : α → List Value} {C K lo : Nat} {w : World} {v : Value} {xs : List α} (hk : ∀ x, (enc x).length = C) (h : OwnG enc C K w lo v xs) : ∃ A c, v = .slice A xs.length c ∧ Sh w lo w.heap.size A xs.length C := by
  rcases h with ⟨rfl, rfl⟩ | ⟨g, cap, cur, rfl, h1, h2, h3, h4, h5, h6⟩
  · exact ⟨none, 0, rfl, fun h => by simp at h⟩
  · refine ⟨_, cap, rfl, fun _ => ⟨g, rfl, h1, lt_of h2, fun k hk' j hj => ?_⟩⟩
    have := h6 k _ (List.getElem?_eq_getElem hk') j ((enc xs[k])[j]'(by rw [hk]; exact hj)) (List.getElem?_eq_getElem _)
    exact ⟨⟨_, this.1⟩, this.2⟩
theorem Sh.of_clP {lo : Nat} {w : World} {v : Value} {xs : List S37} (h : ClP w lo v xs) : ∃ A c, v = .slice A xs.length c ∧ Sh w lo w.heap.size A xs.length 3 := by
  rcases h with ⟨rfl, rfl⟩ | ⟨g, cap, rfl, h1, h2, h3, h6⟩
  · exact ⟨none, 0, rfl, fun h => by simp at h⟩
  · refine ⟨_, cap, rfl, fun _ => ⟨g, rfl, h1, h2, fun k hk' j hj => ?_⟩⟩
    have := h6 k _ (List.getElem?_eq_getElem hk') j ((enc37 xs[k])[j]'(by simpa [enc37] using hj)) (List.getElem?_eq_getElem _)
    exact ⟨⟨_, this.1⟩, this.2⟩
theorem Sh.of_clS {lo : Nat} {w : World} {v : Value} {xs : List S46} (h : ClS w lo v xs) : ∃ A c, v = .slice A xs.length c ∧ Sh w lo w.heap.size A xs.length 5 := by
  rcases h with ⟨rfl, rfl⟩ | ⟨g, cap, rfl, h1, h2, h3, h6⟩
  · exact ⟨none, 0, rfl, fun h => by simp at h⟩
  · refine ⟨_, cap, rfl, fun _ => ⟨g, rfl, h1, h2, fun k hk' j hj => ?_⟩⟩
    have := h6 k _ (List.getElem?_eq_getElem hk') j ((enc46 xs[k])[j]'(by simpa [enc46] using hj)) (List.getElem?_eq_getElem _)
    exact ⟨⟨_, this.1⟩, this.2⟩
/-- A foot whose rows may be written. -/
def FtS (w : World) (lo : Nat) (v : Value) : Prop := ∃ C0 C1 C2 n0 n1 n2 c0 c1 c2, v = .agg #[.slice C0 n0 c0, .slice C1 n1 c1, .slice C2 n2 c2] ∧ Sh w lo w.heap.size C0 n0 3 ∧ Sh w lo w.heap.size C1 n1 5 ∧ Sh w lo w.heap.size C2 n2 3 ∧ n0 ≤ 4398046511104 ∧ n1 ≤ 4398046511104 ∧ n2 ≤ 4398046511104
theorem FtO.S {w : World} {lo : Nat} {v v0 v1 v2 : Value} {f : Ft} (h : FtO w lo v f v0 v1 v2) (hs : f.small) : FtS w lo v := by
  obtain ⟨C0, c0, e0, s0⟩ := Sh.of_own (C := 3) (fun _ => rfl) h.h0
  obtain ⟨C1, c1, e1, s1⟩ := Sh.of_own (C := 5) (fun _ => rfl) h.h1
  obtain ⟨C2, c2, e2, s2⟩ := Sh.of_own (C := 3) (fun _ => rfl) h.h2
  have hn := hs.n
  exact ⟨C0, C1, C2, _, _, _, c0, c1, c2, by rw [h.eq, e0, e1, e2], s0, s1, s2, by omega, by omega, by omega⟩
theorem normS {w : World} {v : Value} {f : Ft} (hf : FtV w v f) (hs : f.small) (hw : f.wfs) : Calls Tryz.prog 7 #[v] w fun e w' => ∃ v', e = .returned (.tuple #[v', .int .i64 (checkS f)]) ∧ FtS w' w.heap.size v' ∧ Below w.heap.size w w' :=
  (normV hf hs hw).mono fun e w' ⟨g, v', v0, v1, v2, e1, h1, h2, h3⟩ => ⟨v', e1, h2.S h1.small, h3⟩
theorem mergeS {w : World} {v u : Value} {f g : Ft} (hf : FtV w v f) (hg : FtV w u g) (hfs : f.small) (hgs : g.small) (hfw : f.wfs) (hgw : g.wfs) : Calls Tryz.prog 14 #[v, u] w fun e w' => ∃ v', e = .returned (.tuple #[v', .int .i64 (mergeC f g)]) ∧ FtS w' w.heap.size v' ∧ Below w.heap.size w w' :=
  (mergeV hf hg hfs hgs hfw hgw).mono fun e w' ⟨g, v', v0, v1, v2, e1, h1, h2, h3⟩ => ⟨v', e1, h2.S h1.small, h3⟩
theorem withoutS {w : World} {v : Value} {f : Ft} (h : FtV w v f) (hs : f.small) (t : Int) : Calls Tryz.prog 18 #[v, .int .i64 t] w fun e w' => ∃ v', e = .returned v' ∧ FtS w' w.heap.size v' ∧ Below w.heap.size w w' := by
  obtain ⟨A0, A1, A2, c0, c1, c2, rfl, h⟩ := h
  have hn := (hs.without t).n
  have hs1 := hs
  obtain ⟨h3, h4, h5⟩ := hs1
  refine (without_any f.ps f.ss f.ws A0 A1 A2 c0 c1 c2 t w h.h0 h.h1 h.h2 (by omega) (by omega) (by omega)).mono ?_
  rintro e w' ⟨v0, v1, v2, rfl, r0, r1, r2, hb⟩
  obtain ⟨B0, d0, rfl, s0⟩ := Sh.of_clP r0
  obtain ⟨B1, d1, rfl, s1⟩ := Sh.of_clS r1
  obtain ⟨B2, d2, rfl, s2⟩ := Sh.of_clP r2
  unfold Ft.without at hn
  dsimp only at hn
  exact ⟨_, rfl, ⟨B0, B1, B2, _, _, _, d0, d1, d2, rfl, s0, s1, s2, by omega, by omega, by omega⟩, hb⟩
/-- Nine rows that may be written. -/
def Rows9 (w : World) (lo hi : Nat) (cs : Array Value) : Prop := ∀ i j, i < 3 → j < 3 → ∃ A n c, cs[i * 3 + j]? = some (.slice A n c) ∧ n ≤ 4398046511104 ∧ Sh w lo hi A n (if j = 1 then 5 else 3)
theorem Rows9.set {w : World} {lo hi : Nat} {cs : Array Value} (h : Rows9 w lo hi cs) (p : Addr) (x : Value) : Rows9 (w.setCell p x) lo hi cs := fun i j hi' hj => by
  obtain ⟨A, n, c, e, hn, hs⟩ := h i j hi' hj
  exact ⟨A, n, c, e, hn, hs.set p x⟩
theorem Rows9.of {w w1 w2 w3 : World} {lo l1 l2 l3 hi : Nat} {N0 N1 N2 M0 M1 M2 W0 W1 W2 : Option Addr} {n0 n1 n2 m0 m1 m2 k0 k1 k2 c0 c1 c2 d0 d1 d2 e0 e1 e2 : Nat} (h : (Sh w1 l1 w1.heap.size N0 n0 3 ∧ Sh w1 l1 w1.heap.size N1 n1 5 ∧ Sh w1 l1 w1.heap.size N2 n2 3 ∧ n0 ≤ 4398046511104 ∧ n1 ≤ 4398046511104 ∧ n2 ≤ 4398046511104)) (h' : (Sh w2 l2 w2.heap.size M0 m0 3 ∧ Sh w2 l2 w2.heap.size M1 m1 5 ∧ Sh w2 l2 w2.heap.size M2 m2 3 ∧ m0 ≤ 4398046511104 ∧ m1 ≤ 4398046511104 ∧ m2 ≤ 4398046511104)) (h'' : (Sh w3 l3 w3.heap.size W0 k0 3 ∧ Sh w3 l3 w3.heap.size W1 k1 5 ∧ Sh w3 l3 w3.heap.size W2 k2 3 ∧ k0 ≤ 4398046511104 ∧ k1 ≤ 4398046511104 ∧ k2 ≤ 4398046511104))
    (b1 : Below w1.heap.size w1 w) (b2 : Below w2.heap.size w2 w) (b3 : Below w3.heap.size w3 w) (q1 : lo ≤ l1) (q2 : lo ≤ l2) (q3 : lo ≤ l3) (z1 : w1.heap.size ≤ hi) (z2 : w2.heap.size ≤ hi) (z3 : w3.heap.size ≤ hi) : Rows9 w lo hi #[.slice N0 n0 c0, .slice N1 n1 c1, .slice N2 n2 c2, .slice M0 m0 d0, .slice M1 m1 d1, .slice M2 m2 d2, .slice W0 k0 e0, .slice W1 k1 e1, .slice W2 k2 e2] := by
  intro i j hi' hj
  have hi3 : i = 0 ∨ i = 1 ∨ i = 2 := by omega
  have hj3 : j = 0 ∨ j = 1 ∨ j = 2 := by omega
  rcases hi3 with rfl | rfl | rfl <;> rcases hj3 with rfl | rfl | rfl
  · exact ⟨_, _, _, rfl, h.2.2.2.1, (h.1.below b1).mono q1 z1⟩
  · exact ⟨_, _, _, rfl, h.2.2.2.2.1, (h.2.1.below b1).mono q1 z1⟩
  · exact ⟨_, _, _, rfl, h.2.2.2.2.2, (h.2.2.1.below b1).mono q1 z1⟩
  · exact ⟨_, _, _, rfl, h'.2.2.2.1, (h'.1.below b2).mono q2 z2⟩
  · exact ⟨_, _, _, rfl, h'.2.2.2.2.1, (h'.2.1.below b2).mono q2 z2⟩
  · exact ⟨_, _, _, rfl, h'.2.2.2.2.2, (h'.2.2.1.below b2).mono q2 z2⟩
  · exact ⟨_, _, _, rfl, h''.2.2.2.1, (h''.1.below b3).mono q3 z3⟩
  · exact ⟨_, _, _, rfl, h''.2.2.2.2.1, (h''.2.1.below b3).mono q3 z3⟩
  · exact ⟨_, _, _, rfl, h''.2.2.2.2.2, (h''.2.2.1.below b3).mono q3 z3⟩
theorem ptr_ne {a b : Nat} (h : Value.pointer (some ⟨a, 0, none⟩) ≠ Value.pointer (some ⟨b, 0, none⟩)) : a ≠ b := fun e => h (by rw [e])
theorem Zb.lt {w : World} {b : Nat} {x : Value} (h : Zb w b x) : x ≠ .pointer (some ⟨w.heap.size, 0, none⟩) := by
  obtain ⟨bo, rfl, _, e⟩ := h
  intro e'
  have := lt_of e
  simp only [Value.pointer.injEq, Option.some.injEq, Addr.mk.injEq, and_true] at e'
  omega
set_option maxHeartbeats 16000000 in
set_option maxRecDepth 100000 in
theorem own_reg {f g : Ft} {m0 m1 m2 n0 n1 n2 a0 a1 a2 b0 b1 b2 bf bg : Nat} {A0 A1 A2 B0 B1 B2 : Option Addr} {w1 : World} {Q : Exit → Act → World → Prop} {t0 t1 t2 t3 t4 t5 t6 t7 t8 t9 t10 t11 t12 t13 t14 t15 t16 t17 t18 t19 t20 t21 t22 t23 t24 t25 t26 t27 t28 t29 t30 t31 t32 t33 t34 t35 t36 t37 t38 t39 t40 t41 t42 t43 t44 t45 t46 t47 t48 t49 t50 t51 t52 t53 t54 t55 t56 t57 t58 t59 t60 t61 t62 t63 t64 t65 t66 t67 t68 t69 t70 t71 t72 t73 t74 t75 t76 t77 t78 t79 t80 t81 t82 t83 t84 t85 t86 t87 t88 t89 t90 t91 t92 t93 t94 t95 t96 t97 t98 t99 t100 t101 t102 t103 t104 t105 t106 t107 t108 t109 t110 t111 t112 t113 t114 t115 t116 t117 t118 t119 t120 : Value} {ds : List Deferred}
    (HCf : ∀ W, Below w1.heap.size w1 W → Calls Tryz.prog 8 #[.agg #[.slice A0 m0 a0, .slice A1 m1 a1, .slice A2 m2 a2]] W fun e w' => ∃ v', e = .returned v' ∧ FtL w' v' f ∧ Below W.heap.size W w') (HCg : ∀ W, Below w1.heap.size w1 W → Calls Tryz.prog 8 #[.agg #[.slice B0 n0 b0, .slice B1 n1 b1, .slice B2 n2 b2]] W fun e w' => ∃ v', e = .returned v' ∧ FtL w' v' g ∧ Below W.heap.size W w')
    (D0 : w1.heap[bf]? = some (.cells #[.slice A0 m0 a0, .slice A1 m1 a1, .slice A2 m2 a2] 25 (0, 0))) (D1 : w1.heap[bg]? = some (.cells #[.slice B0 n0 b0, .slice B1 n1 b1, .slice B2 n2 b2] 25 (0, 0)))
    (hQp : ∀ c a d v w, Q (.panic c) (Act.put a d v) w → Q (.panic c) a w)
    (hEnd : ∀ (w10 : World) (bo bp : Nat) (vx vy x18 x20 : Value), Below w1.heap.size w1 w10 → BoxF w10 bo vx f → BoxF w10 bp vy g → Q .normal ⟨#[t0, t1, .pointer (some ⟨bf, 0, none⟩), .pointer (some ⟨bg, 0, none⟩), t4, .pointer (some ⟨bo, 0, none⟩), .pointer (some ⟨bp, 0, none⟩), t7, t8, t9, t10, t11, t12, t13, t14, t15, t16, t17, x18, vx, x20, vy, t22, t23, t24, t25, t26, t27, t28, t29, t30, t31, t32, t33, t34, t35, t36, t37, t38, t39, t40, t41, t42, t43, t44, t45, t46, t47, t48, t49, t50, t51, t52, t53, t54, t55, t56, t57, t58, t59, t60, t61, t62, t63, t64, t65, t66, t67, t68, t69, t70, t71, t72, t73, t74, t75, t76, t77, t78, t79, t80, t81, t82, t83, t84, t85, t86, t87, t88, t89, t90, t91, t92, t93, t94, t95, t96, t97, t98, t99, t100, t101, t102, t103, t104, t105, t106, t107, t108, t109, t110, t111, t112, t113, t114, t115, t116, t117, t118, t119, t120], ds⟩ w10) :
    (Code.region 1 (opsOf Tryz.f6 1) true).wp Tryz.prog Q ⟨#[t0, t1, .pointer (some ⟨bf, 0, none⟩), .pointer (some ⟨bg, 0, none⟩), t4, t5, t6, t7, t8, t9, t10, t11, t12, t13, t14, t15, t16, t17, t18, t19, t20, t21, t22, t23, t24, t25, t26, t27, t28, t29, t30, t31, t32, t33, t34, t35, t36, t37, t38, t39, t40, t41, t42, t43, t44, t45, t46, t47, t48, t49, t50, t51, t52, t53, t54, t55, t56, t57, t58, t59, t60, t61, t62, t63, t64, t65, t66, t67, t68, t69, t70, t71, t72, t73, t74, t75, t76, t77, t78, t79, t80, t81, t82, t83, t84, t85, t86, t87, t88, t89, t90, t91, t92, t93, t94, t95, t96, t97, t98, t99, t100, t101, t102, t103, t104, t105, t106, t107, t108, t109, t110, t111, t112, t113, t114, t115, t116, t117, t118, t119, t120], ds⟩ w1 := by
  obtain ⟨M, hM⟩ : ∃ M : Value → Value → Value → Value → Act, M = fun x19 x21 x5 x6 => ⟨#[t0, t1, .pointer (some ⟨bf, 0, none⟩), .pointer (some ⟨bg, 0, none⟩), t4, x5, x6, t7, t8, t9, t10, t11, t12, t13, t14, t15, t16, t17, .agg #[.slice A0 m0 a0, .slice A1 m1 a1, .slice A2 m2 a2], x19, .agg #[.slice B0 n0 b0, .slice B1 n1 b1, .slice B2 n2 b2], x21, t22, t23, t24, t25, t26, t27, t28, t29, t30, t31, t32, t33, t34, t35, t36, t37, t38, t39, t40, t41, t42, t43, t44, t45, t46, t47, t48, t49, t50, t51, t52, t53, t54, t55, t56, t57, t58, t59, t60, t61, t62, t63, t64, t65, t66, t67, t68, t69, t70, t71, t72, t73, t74, t75, t76, t77, t78, t79, t80, t81, t82, t83, t84, t85, t86, t87, t88, t89, t90, t91, t92, t93, t94, t95, t96, t97, t98, t99, t100, t101, t102, t103, t104, t105, t106, t107, t108, t109, t110, t111, t112, t113, t114, t115, t116, t117, t118, t119, t120], ds⟩ := ⟨_, rfl⟩
  obtain ⟨ops, hops⟩ : ∃ ops, opsOf Tryz.f6 1 = ops := ⟨_, rfl⟩
  rw [hops]
  simp [opsOf, opsIn, Tryz.f6] at hops
  have s1_3_4_5 : ∀ (w2 : World) (x19 x21 x5 x6 : Value), Below w1.heap.size w1 w2 → FtL w2 x19 f → FtL w2 x21 g → Zb w2 w1.heap.size x5 → Zb w2 w1.heap.size x6 → x5 ≠ x6 → wpAnyLast Tryz.prog .any ops Q (fun w' => Below w1.heap.size w1 w') [] 2 #[true, true, true, true, true, true, false, false] (M x19 x21 x5 x6) w2 := by
    intro w2 x19 x21 x5 x6 hc f1 f3 f4 f5 f9
    simp only [hM]
    subst hops
    refine with_tab tab6_1 (fun HT_ => ?_)
    obtain ⟨C0, C1, C2, k0, k1, k2, c0, c1, c2, rfl, hv⟩ := f1
    obtain ⟨G0, G1, G2, l0, l1, l2, g0, g1, g2, rfl, hu⟩ := f3
    obtain ⟨bo, rfl, hlo, hz⟩ := f4
    obtain ⟨bp, rfl, hlp, hy⟩ := f5
    have hne := ptr_ne f9
    have hS := allSl (a := .slice none 0 0) (b := .slice none 0 0) (c := .slice none 0 0) rfl rfl rfl
    have Khv := Aside0.mk hv
    have Khu := Aside0.mk hu
    have Khz := Aside0.mk hz
    have Khy := Aside0.mk hy
    have KhS := Aside0.mk hS
    have Khlo := Aside0.mk hlo
    have Khlp := Aside0.mk hlp
    have Khne := Aside0.mk hne
    clear hv hu hz hy hS hlo hlp hne f9
    have j0 : w2.cell? ⟨bo, 0, none⟩ = some (.slice none 0 0) := cell_of Khz.out 0
    have j1 : w2.cell? ⟨bo, 1, none⟩ = some (.slice none 0 0) := cell_of Khz.out 1
    have j2 : w2.cell? ⟨bo, 2, none⟩ = some (.slice none 0 0) := cell_of Khz.out 2
    have k_0 : w2.frozen? ⟨bo, 0, none⟩ = false := frozen_of Khz.out 0
    have k_1 : w2.frozen? ⟨bo, 1, none⟩ = false := frozen_of Khz.out 1
    have k_2 : w2.frozen? ⟨bo, 2, none⟩ = false := frozen_of Khz.out 2
    refine one_ (i := 6) (N := none) #[true, true, true, true, true, true, true, false] rfl rfl (one_of HT_.out (by kernel_rfl)) (by decide) (fun K hK => ?_)
    refine skip_ (w1 := ?_) (by rfl) rfl ?_ ?_
    rotate_left
    · go_simp
      rfl
    have hFr : Fr w2 bo (((w2.setCell ⟨bo, 0, none⟩ (.slice C0 k0 c0)).setCell ⟨bo, 1, none⟩ (.slice C1 k1 c1)).setCell ⟨bo, 2, none⟩ (.slice C2 k2 c2)) := (((Fr.refl (lt_of Khz.out)).set 0 _).set 1 _).set 2 _
    have hX : (((w2.setCell ⟨bo, 0, none⟩ (.slice C0 k0 c0)).setCell ⟨bo, 1, none⟩ (.slice C1 k1 c1)).setCell ⟨bo, 2, none⟩ (.slice C2 k2 c2)).heap[bo]? = some (.cells #[.slice C0 k0 c0, .slice C1 k1 c1, .slice C2 k2 c2] 25 (0, 0)) := setCell_heap (setCell_heap (setCell_heap Khz.out _) _) _
    generalize (((w2.setCell ⟨bo, 0, none⟩ (.slice C0 k0 c0)).setCell ⟨bo, 1, none⟩ (.slice C1 k1 c1)).setCell ⟨bo, 2, none⟩ (.slice C2 k2 c2)) = w4 at hFr hX ⊢
    have hl : Below w1.heap.size w1 w4 := Below.trans hc (hFr.low.mono Khlo.out)
    have Lv := Aside0.mk (Khv.out.keep hFr Khz.out KhS.out)
    have Lu := Aside0.mk (Khu.out.keep hFr Khz.out KhS.out)
    have LX := Aside0.mk hX
    have Ly := Aside0.mk ((hFr.keep bp (lt_of Khy.out) (fun e => Khne.out e.symm)).trans Khy.out)
    clear hFr hX j0 j1 j2 k_0 k_1 k_2
    refine hK.out _ _ hl (fun hHeld => ?_)
    clear hK K
    have j0 : w4.cell? ⟨bp, 0, none⟩ = some (.slice none 0 0) := cell_of Ly.out 0
    have j1 : w4.cell? ⟨bp, 1, none⟩ = some (.slice none 0 0) := cell_of Ly.out 1
    have j2 : w4.cell? ⟨bp, 2, none⟩ = some (.slice none 0 0) := cell_of Ly.out 2
    have k_0 : w4.frozen? ⟨bp, 0, none⟩ = false := frozen_of Ly.out 0
    have k_1 : w4.frozen? ⟨bp, 1, none⟩ = false := frozen_of Ly.out 1
    have k_2 : w4.frozen? ⟨bp, 2, none⟩ = false := frozen_of Ly.out 2
    refine one_ (i := 7) (N := none) #[true, true, true, true, true, true, true, true] rfl rfl (one_of HT_.out (by kernel_rfl)) (by decide) (fun K hK => ?_)
    refine skip_ (w1 := ?_) (by rfl) rfl ?_ ?_
    rotate_left
    · go_simp
      rfl
    have hFr : Fr w4 bp (((w4.setCell ⟨bp, 0, none⟩ (.slice G0 l0 g0)).setCell ⟨bp, 1, none⟩ (.slice G1 l1 g1)).setCell ⟨bp, 2, none⟩ (.slice G2 l2 g2)) := (((Fr.refl (lt_of Ly.out)).set 0 _).set 1 _).set 2 _
    have hX : (((w4.setCell ⟨bp, 0, none⟩ (.slice G0 l0 g0)).setCell ⟨bp, 1, none⟩ (.slice G1 l1 g1)).setCell ⟨bp, 2, none⟩ (.slice G2 l2 g2)).heap[bp]? = some (.cells #[.slice G0 l0 g0, .slice G1 l1 g1, .slice G2 l2 g2] 25 (0, 0)) := setCell_heap (setCell_heap (setCell_heap Ly.out _) _) _
    generalize (((w4.setCell ⟨bp, 0, none⟩ (.slice G0 l0 g0)).setCell ⟨bp, 1, none⟩ (.slice G1 l1 g1)).setCell ⟨bp, 2, none⟩ (.slice G2 l2 g2)) = w5 at hFr hX ⊢
    have hl5 : Below w1.heap.size w1 w5 := Below.trans hl (hFr.low.mono Khlp.out)
    have Mv := Aside0.mk (Lv.out.keep hFr Ly.out KhS.out)
    have Mu := Aside0.mk (Lu.out.keep hFr Ly.out KhS.out)
    have MY := Aside0.mk hX
    have MX := Aside0.mk ((hFr.keep bo (lt_of LX.out) Khne.out).trans LX.out)
    clear hFr hX
    refine hK.out _ _ hl5 (fun hHeld => ?_)
    clear hK K
    refine done_ (done_of HT_.out (by kernel_rfl)) ?_
    exact hEnd w5 bo bp _ _ _ _ hl5 ⟨C0, C1, C2, k0, k1, k2, c0, c1, c2, rfl, MX.out, Mv.out⟩ ⟨G0, G1, G2, l0, l1, l2, g0, g1, g2, rfl, MY.out, Mu.out⟩
  have s1_3_4 : ∀ (w2 : World) (x19 x21 x5 x6 : Value), Below w1.heap.size w1 w2 → FtL w2 x19 f → FtL w2 x21 g → Zb w2 w1.heap.size x5 → wpAnyLast Tryz.prog .any ops Q (fun w' => Below w1.heap.size w1 w') [] 3 #[true, true, true, true, true, false, false, false] (M x19 x21 x5 x6) w2 := by
    intro w2 x19 x21 x5 x6 hc f1 f3 f4
    simp only [hM]
    subst hops
    refine with_tab tab6_1 (fun HT_ => ?_)
    refine one_ (i := 5) (N := some 6) #[true, true, true, true, true, true, false, false] rfl rfl (one_of HT_.out (by kernel_rfl)) (by decide) (fun K hK => ?_)
    have hn := f4.lt
    have hb := below_alloc (Below.refl w2.heap.size w2) (.cells #[.slice none 0 0, .slice none 0 0, .slice none 0 0] 25)
    have hx : Zb (w2.alloc (.cells #[.slice none 0 0, .slice none 0 0, .slice none 0 0] 25)) w1.heap.size (.pointer (some ⟨w2.heap.size, 0, none⟩)) := ⟨_, rfl, hc.size, heap_new w2 _⟩
    refine value_ (w1 := ?_) (v := ?_) (by rfl) rfl ?_ ?_
    rotate_left
    rotate_left
    · go_simp
      constructor
      · rfl
      · rfl
    refine hK.out _ _ (below_step hc hb) (fun hHeld => ?_)
    clear hK K
    refine norm_ (a' := ?_) ?_ ?_
    rotate_left
    · show Act.put _ (some 6) _ = _
      simp only [Act.put, List.setIfInBounds_toArray, List.set_cons_zero, List.set_cons_succ, i64_w, i32_w]
      rfl
    simpa only [hM] using s1_3_4_5 _ x19 x21 x5 _ (below_step hc hb) (f1.keep hb) (f3.keep hb) (f4.keep hb) hx hn
  have s1_3_5 : ∀ (w2 : World) (x19 x21 x5 x6 : Value), Below w1.heap.size w1 w2 → FtL w2 x19 f → FtL w2 x21 g → Zb w2 w1.heap.size x6 → wpAnyLast Tryz.prog .any ops Q (fun w' => Below w1.heap.size w1 w') [] 3 #[true, true, true, true, false, true, false, false] (M x19 x21 x5 x6) w2 := by
    intro w2 x19 x21 x5 x6 hc f1 f3 f5
    simp only [hM]
    subst hops
    refine with_tab tab6_1 (fun HT_ => ?_)
    refine one_ (i := 4) (N := some 5) #[true, true, true, true, true, true, false, false] rfl rfl (one_of HT_.out (by kernel_rfl)) (by decide) (fun K hK => ?_)
    have hn := f5.lt
    have hb := below_alloc (Below.refl w2.heap.size w2) (.cells #[.slice none 0 0, .slice none 0 0, .slice none 0 0] 25)
    have hx : Zb (w2.alloc (.cells #[.slice none 0 0, .slice none 0 0, .slice none 0 0] 25)) w1.heap.size (.pointer (some ⟨w2.heap.size, 0, none⟩)) := ⟨_, rfl, hc.size, heap_new w2 _⟩
    refine value_ (w1 := ?_) (v := ?_) (by rfl) rfl ?_ ?_
    rotate_left
    rotate_left
    · go_simp
      constructor
      · rfl
      · rfl
    refine hK.out _ _ (below_step hc hb) (fun hHeld => ?_)
    clear hK K
    refine norm_ (a' := ?_) ?_ ?_
    rotate_left
    · show Act.put _ (some 5) _ = _
      simp only [Act.put, List.setIfInBounds_toArray, List.set_cons_zero, List.set_cons_succ, i64_w, i32_w]
      rfl
    simpa only [hM] using s1_3_4_5 _ x19 x21 _ x6 (below_step hc hb) (f1.keep hb) (f3.keep hb) hx (f5.keep hb) hn.symm
  have s1_3 : ∀ (w2 : World) (x19 x21 x5 x6 : Value), Below w1.heap.size w1 w2 → FtL w2 x19 f → FtL w2 x21 g → wpAnyLast Tryz.prog .any ops Q (fun w' => Below w1.heap.size w1 w') [] 4 #[true, true, true, true, false, false, false, false] (M x19 x21 x5 x6) w2 := by
    intro w2 x19 x21 x5 x6 hc f1 f3
    simp only [hM]
    subst hops
    refine with_tab tab6_1 (fun HT_ => ?_)
    refine two_ (i := 4) (j := 5) (Ni := some 5) (Nj := some 6) #[true, true, true, true, true, false, false, false] #[true, true, true, true, false, true, false, false] rfl rfl rfl rfl (two_of HT_.out (by kernel_rfl)) (by decide) (by decide) (fun K hK => ?_) (fun K hK => ?_)
    · have hb := below_alloc (Below.refl w2.heap.size w2) (.cells #[.slice none 0 0, .slice none 0 0, .slice none 0 0] 25)
      have hx : Zb (w2.alloc (.cells #[.slice none 0 0, .slice none 0 0, .slice none 0 0] 25)) w1.heap.size (.pointer (some ⟨w2.heap.size, 0, none⟩)) := ⟨_, rfl, hc.size, heap_new w2 _⟩
      refine value_ (w1 := ?_) (v := ?_) (by rfl) rfl ?_ ?_
      rotate_left
      rotate_left
      · go_simp
        constructor
        · rfl
        · rfl
      refine hK.out _ _ (below_step hc hb) (fun hHeld => ?_)
      clear hK K
      refine norm_ (a' := ?_) ?_ ?_
      rotate_left
      · show Act.put _ (some 5) _ = _
        simp only [Act.put, List.setIfInBounds_toArray, List.set_cons_zero, List.set_cons_succ, i64_w, i32_w]
        rfl
      simpa only [hM] using s1_3_4 _ x19 x21 _ x6 (below_step hc hb) (f1.keep hb) (f3.keep hb) hx
    · have hb := below_alloc (Below.refl w2.heap.size w2) (.cells #[.slice none 0 0, .slice none 0 0, .slice none 0 0] 25)
      have hx : Zb (w2.alloc (.cells #[.slice none 0 0, .slice none 0 0, .slice none 0 0] 25)) w1.heap.size (.pointer (some ⟨w2.heap.size, 0, none⟩)) := ⟨_, rfl, hc.size, heap_new w2 _⟩
      refine value_ (w1 := ?_) (v := ?_) (by rfl) rfl ?_ ?_
      rotate_left
      rotate_left
      · go_simp
        constructor
        · rfl
        · rfl
      refine hK.out _ _ (below_step hc hb) (fun hHeld => ?_)
      clear hK K
      refine norm_ (a' := ?_) ?_ ?_
      rotate_left
      · show Act.put _ (some 6) _ = _
        simp only [Act.put, List.setIfInBounds_toArray, List.set_cons_zero, List.set_cons_succ, i64_w, i32_w]
        rfl
      simpa only [hM] using s1_3_5 _ x19 x21 x5 _ (below_step hc hb) (f1.keep hb) (f3.keep hb) hx
  have s1_4_5 : ∀ (w2 : World) (x19 x21 x5 x6 : Value), Below w1.heap.size w1 w2 → FtL w2 x19 f → Zb w2 w1.heap.size x5 → Zb w2 w1.heap.size x6 → x5 ≠ x6 → wpAnyLast Tryz.prog .any ops Q (fun w' => Below w1.heap.size w1 w') [] 3 #[true, true, true, false, true, true, false, false] (M x19 x21 x5 x6) w2 := by
    intro w2 x19 x21 x5 x6 hc f1 f4 f5 f9
    simp only [hM]
    subst hops
    refine with_tab tab6_1 (fun HT_ => ?_)
    refine one_ (i := 3) (N := some 21) #[true, true, true, true, true, true, false, false] rfl rfl (one_of HT_.out (by kernel_rfl)) (by decide) (fun K hK => ?_)
    refine goes_ Tryz.func8 (by kernel_rfl) rfl #[.agg #[.slice B0 n0 b0, .slice B1 n1 b1, .slice B2 n2 b2]] (by rfl) rfl rfl (by (try simp only [List.map_toArray, List.map_cons, List.map_nil]); first | done | rfl) ?_
    refine (HCg w2 hc).mono ?_
    rintro e w3 ⟨v, rfl, hx, hb⟩
    refine ⟨_, rfl, ?_⟩
    refine hK.out _ _ (below_step hc hb) (fun hHeld => ?_)
    clear hK K
    refine norm_ (a' := ?_) ?_ ?_
    rotate_left
    · show Act.put _ (some 21) _ = _
      simp only [Act.put, List.setIfInBounds_toArray, List.set_cons_zero, List.set_cons_succ, i64_w, i32_w]
      rfl
    simpa only [hM] using s1_3_4_5 _ x19 _ x5 x6 (below_step hc hb) (f1.keep hb) hx (f4.keep hb) (f5.keep hb) f9
  have s1_4 : ∀ (w2 : World) (x19 x21 x5 x6 : Value), Below w1.heap.size w1 w2 → FtL w2 x19 f → Zb w2 w1.heap.size x5 → wpAnyLast Tryz.prog .any ops Q (fun w' => Below w1.heap.size w1 w') [] 4 #[true, true, true, false, true, false, false, false] (M x19 x21 x5 x6) w2 := by
    intro w2 x19 x21 x5 x6 hc f1 f4
    simp only [hM]
    subst hops
    refine with_tab tab6_1 (fun HT_ => ?_)
    refine two_ (i := 3) (j := 5) (Ni := some 21) (Nj := some 6) #[true, true, true, true, true, false, false, false] #[true, true, true, false, true, true, false, false] rfl rfl rfl rfl (two_of HT_.out (by kernel_rfl)) (by decide) (by decide) (fun K hK => ?_) (fun K hK => ?_)
    · refine goes_ Tryz.func8 (by kernel_rfl) rfl #[.agg #[.slice B0 n0 b0, .slice B1 n1 b1, .slice B2 n2 b2]] (by rfl) rfl rfl (by (try simp only [List.map_toArray, List.map_cons, List.map_nil]); first | done | rfl) ?_
      refine (HCg w2 hc).mono ?_
      rintro e w3 ⟨v, rfl, hx, hb⟩
      refine ⟨_, rfl, ?_⟩
      refine hK.out _ _ (below_step hc hb) (fun hHeld => ?_)
      clear hK K
      refine norm_ (a' := ?_) ?_ ?_
      rotate_left
      · show Act.put _ (some 21) _ = _
        simp only [Act.put, List.setIfInBounds_toArray, List.set_cons_zero, List.set_cons_succ, i64_w, i32_w]
        rfl
      simpa only [hM] using s1_3_4 _ x19 _ x5 x6 (below_step hc hb) (f1.keep hb) hx (f4.keep hb)
    · have hn := f4.lt
      have hb := below_alloc (Below.refl w2.heap.size w2) (.cells #[.slice none 0 0, .slice none 0 0, .slice none 0 0] 25)
      have hx : Zb (w2.alloc (.cells #[.slice none 0 0, .slice none 0 0, .slice none 0 0] 25)) w1.heap.size (.pointer (some ⟨w2.heap.size, 0, none⟩)) := ⟨_, rfl, hc.size, heap_new w2 _⟩
      refine value_ (w1 := ?_) (v := ?_) (by rfl) rfl ?_ ?_
      rotate_left
      rotate_left
      · go_simp
        constructor
        · rfl
        · rfl
      refine hK.out _ _ (below_step hc hb) (fun hHeld => ?_)
      clear hK K
      refine norm_ (a' := ?_) ?_ ?_
      rotate_left
      · show Act.put _ (some 6) _ = _
        simp only [Act.put, List.setIfInBounds_toArray, List.set_cons_zero, List.set_cons_succ, i64_w, i32_w]
        rfl
      simpa only [hM] using s1_4_5 _ x19 x21 x5 _ (below_step hc hb) (f1.keep hb) (f4.keep hb) hx hn
  have s1_5 : ∀ (w2 : World) (x19 x21 x5 x6 : Value), Below w1.heap.size w1 w2 → FtL w2 x19 f → Zb w2 w1.heap.size x6 → wpAnyLast Tryz.prog .any ops Q (fun w' => Below w1.heap.size w1 w') [] 4 #[true, true, true, false, false, true, false, false] (M x19 x21 x5 x6) w2 := by
    intro w2 x19 x21 x5 x6 hc f1 f5
    simp only [hM]
    subst hops
    refine with_tab tab6_1 (fun HT_ => ?_)
    refine two_ (i := 3) (j := 4) (Ni := some 21) (Nj := some 5) #[true, true, true, true, false, true, false, false] #[true, true, true, false, true, true, false, false] rfl rfl rfl rfl (two_of HT_.out (by kernel_rfl)) (by decide) (by decide) (fun K hK => ?_) (fun K hK => ?_)
    · refine goes_ Tryz.func8 (by kernel_rfl) rfl #[.agg #[.slice B0 n0 b0, .slice B1 n1 b1, .slice B2 n2 b2]] (by rfl) rfl rfl (by (try simp only [List.map_toArray, List.map_cons, List.map_nil]); first | done | rfl) ?_
      refine (HCg w2 hc).mono ?_
      rintro e w3 ⟨v, rfl, hx, hb⟩
      refine ⟨_, rfl, ?_⟩
      refine hK.out _ _ (below_step hc hb) (fun hHeld => ?_)
      clear hK K
      refine norm_ (a' := ?_) ?_ ?_
      rotate_left
      · show Act.put _ (some 21) _ = _
        simp only [Act.put, List.setIfInBounds_toArray, List.set_cons_zero, List.set_cons_succ, i64_w, i32_w]
        rfl
      simpa only [hM] using s1_3_5 _ x19 _ x5 x6 (below_step hc hb) (f1.keep hb) hx (f5.keep hb)
    · have hn := f5.lt
      have hb := below_alloc (Below.refl w2.heap.size w2) (.cells #[.slice none 0 0, .slice none 0 0, .slice none 0 0] 25)
      have hx : Zb (w2.alloc (.cells #[.slice none 0 0, .slice none 0 0, .slice none 0 0] 25)) w1.heap.size (.pointer (some ⟨w2.heap.size, 0, none⟩)) := ⟨_, rfl, hc.size, heap_new w2 _⟩
      refine value_ (w1 := ?_) (v := ?_) (by rfl) rfl ?_ ?_
      rotate_left
      rotate_left
      · go_simp
        constructor
        · rfl
        · rfl
      refine hK.out _ _ (below_step hc hb) (fun hHeld => ?_)
      clear hK K
      refine norm_ (a' := ?_) ?_ ?_
      rotate_left
      · show Act.put _ (some 5) _ = _
        simp only [Act.put, List.setIfInBounds_toArray, List.set_cons_zero, List.set_cons_succ, i64_w, i32_w]
        rfl
      simpa only [hM] using s1_4_5 _ x19 x21 _ x6 (below_step hc hb) (f1.keep hb) hx (f5.keep hb) hn.symm
  have s1 : ∀ (w2 : World) (x19 x21 x5 x6 : Value), Below w1.heap.size w1 w2 → FtL w2 x19 f → wpAnyLast Tryz.prog .any ops Q (fun w' => Below w1.heap.size w1 w') [] 5 #[true, true, true, false, false, false, false, false] (M x19 x21 x5 x6) w2 := by
    intro w2 x19 x21 x5 x6 hc f1
    simp only [hM]
    subst hops
    refine with_tab tab6_1 (fun HT_ => ?_)
    refine three_ (i := 3) (j := 4) (k := 5) (Ni := some 21) (Nj := some 5) (Nk := some 6) #[true, true, true, true, false, false, false, false] #[true, true, true, false, true, false, false, false] #[true, true, true, false, false, true, false, false] rfl rfl rfl rfl rfl rfl (three_of HT_.out (by kernel_rfl)) (by decide) (by decide) (by decide) (fun K hK => ?_) (fun K hK => ?_) (fun K hK => ?_)
    · refine goes_ Tryz.func8 (by kernel_rfl) rfl #[.agg #[.slice B0 n0 b0, .slice B1 n1 b1, .slice B2 n2 b2]] (by rfl) rfl rfl (by (try simp only [List.map_toArray, List.map_cons, List.map_nil]); first | done | rfl) ?_
      refine (HCg w2 hc).mono ?_
      rintro e w3 ⟨v, rfl, hx, hb⟩
      refine ⟨_, rfl, ?_⟩
      refine hK.out _ _ (below_step hc hb) (fun hHeld => ?_)
      clear hK K
      refine norm_ (a' := ?_) ?_ ?_
      rotate_left
      · show Act.put _ (some 21) _ = _
        simp only [Act.put, List.setIfInBounds_toArray, List.set_cons_zero, List.set_cons_succ, i64_w, i32_w]
        rfl
      simpa only [hM] using s1_3 _ x19 _ x5 x6 (below_step hc hb) (f1.keep hb) hx
    · have hb := below_alloc (Below.refl w2.heap.size w2) (.cells #[.slice none 0 0, .slice none 0 0, .slice none 0 0] 25)
      have hx : Zb (w2.alloc (.cells #[.slice none 0 0, .slice none 0 0, .slice none 0 0] 25)) w1.heap.size (.pointer (some ⟨w2.heap.size, 0, none⟩)) := ⟨_, rfl, hc.size, heap_new w2 _⟩
      refine value_ (w1 := ?_) (v := ?_) (by rfl) rfl ?_ ?_
      rotate_left
      rotate_left
      · go_simp
        constructor
        · rfl
        · rfl
      refine hK.out _ _ (below_step hc hb) (fun hHeld => ?_)
      clear hK K
      refine norm_ (a' := ?_) ?_ ?_
      rotate_left
      · show Act.put _ (some 5) _ = _
        simp only [Act.put, List.setIfInBounds_toArray, List.set_cons_zero, List.set_cons_succ, i64_w, i32_w]
        rfl
      simpa only [hM] using s1_4 _ x19 x21 _ x6 (below_step hc hb) (f1.keep hb) hx
    · have hb := below_alloc (Below.refl w2.heap.size w2) (.cells #[.slice none 0 0, .slice none 0 0, .slice none 0 0] 25)
      have hx : Zb (w2.alloc (.cells #[.slice none 0 0, .slice none 0 0, .slice none 0 0] 25)) w1.heap.size (.pointer (some ⟨w2.heap.size, 0, none⟩)) := ⟨_, rfl, hc.size, heap_new w2 _⟩
      refine value_ (w1 := ?_) (v := ?_) (by rfl) rfl ?_ ?_
      rotate_left
      rotate_left
      · go_simp
        constructor
        · rfl
        · rfl
      refine hK.out _ _ (below_step hc hb) (fun hHeld => ?_)
      clear hK K
      refine norm_ (a' := ?_) ?_ ?_
      rotate_left
      · show Act.put _ (some 6) _ = _
        simp only [Act.put, List.setIfInBounds_toArray, List.set_cons_zero, List.set_cons_succ, i64_w, i32_w]
        rfl
      simpa only [hM] using s1_5 _ x19 x21 x5 _ (below_step hc hb) (f1.keep hb) hx
  have s4_5 : ∀ (w2 : World) (x19 x21 x5 x6 : Value), Below w1.heap.size w1 w2 → Zb w2 w1.heap.size x5 → Zb w2 w1.heap.size x6 → x5 ≠ x6 → wpAnyLast Tryz.prog .any ops Q (fun w' => Below w1.heap.size w1 w') [] 4 #[true, false, true, false, true, true, false, false] (M x19 x21 x5 x6) w2 := by
    intro w2 x19 x21 x5 x6 hc f4 f5 f9
    simp only [hM]
    subst hops
    refine with_tab tab6_1 (fun HT_ => ?_)
    refine one_ (i := 1) (N := some 19) #[true, true, true, false, true, true, false, false] rfl rfl (one_of HT_.out (by kernel_rfl)) (by decide) (fun K hK => ?_)
    refine goes_ Tryz.func8 (by kernel_rfl) rfl #[.agg #[.slice A0 m0 a0, .slice A1 m1 a1, .slice A2 m2 a2]] (by rfl) rfl rfl (by (try simp only [List.map_toArray, List.map_cons, List.map_nil]); first | done | rfl) ?_
    refine (HCf w2 hc).mono ?_
    rintro e w3 ⟨v, rfl, hx, hb⟩
    refine ⟨_, rfl, ?_⟩
    refine hK.out _ _ (below_step hc hb) (fun hHeld => ?_)
    clear hK K
    refine norm_ (a' := ?_) ?_ ?_
    rotate_left
    · show Act.put _ (some 19) _ = _
      simp only [Act.put, List.setIfInBounds_toArray, List.set_cons_zero, List.set_cons_succ, i64_w, i32_w]
      rfl
    simpa only [hM] using s1_4_5 _ _ x21 x5 x6 (below_step hc hb) hx (f4.keep hb) (f5.keep hb) f9
  have s4 : ∀ (w2 : World) (x19 x21 x5 x6 : Value), Below w1.heap.size w1 w2 → Zb w2 w1.heap.size x5 → wpAnyLast Tryz.prog .any ops Q (fun w' => Below w1.heap.size w1 w') [] 5 #[true, false, true, false, true, false, false, false] (M x19 x21 x5 x6) w2 := by
    intro w2 x19 x21 x5 x6 hc f4
    simp only [hM]
    subst hops
    refine with_tab tab6_1 (fun HT_ => ?_)
    refine two_ (i := 1) (j := 5) (Ni := some 19) (Nj := some 6) #[true, true, true, false, true, false, false, false] #[true, false, true, false, true, true, false, false] rfl rfl rfl rfl (two_of HT_.out (by kernel_rfl)) (by decide) (by decide) (fun K hK => ?_) (fun K hK => ?_)
    · refine goes_ Tryz.func8 (by kernel_rfl) rfl #[.agg #[.slice A0 m0 a0, .slice A1 m1 a1, .slice A2 m2 a2]] (by rfl) rfl rfl (by (try simp only [List.map_toArray, List.map_cons, List.map_nil]); first | done | rfl) ?_
      refine (HCf w2 hc).mono ?_
      rintro e w3 ⟨v, rfl, hx, hb⟩
      refine ⟨_, rfl, ?_⟩
      refine hK.out _ _ (below_step hc hb) (fun hHeld => ?_)
      clear hK K
      refine norm_ (a' := ?_) ?_ ?_
      rotate_left
      · show Act.put _ (some 19) _ = _
        simp only [Act.put, List.setIfInBounds_toArray, List.set_cons_zero, List.set_cons_succ, i64_w, i32_w]
        rfl
      simpa only [hM] using s1_4 _ _ x21 x5 x6 (below_step hc hb) hx (f4.keep hb)
    · have hn := f4.lt
      have hb := below_alloc (Below.refl w2.heap.size w2) (.cells #[.slice none 0 0, .slice none 0 0, .slice none 0 0] 25)
      have hx : Zb (w2.alloc (.cells #[.slice none 0 0, .slice none 0 0, .slice none 0 0] 25)) w1.heap.size (.pointer (some ⟨w2.heap.size, 0, none⟩)) := ⟨_, rfl, hc.size, heap_new w2 _⟩
      refine value_ (w1 := ?_) (v := ?_) (by rfl) rfl ?_ ?_
      rotate_left
      rotate_left
      · go_simp
        constructor
        · rfl
        · rfl
      refine hK.out _ _ (below_step hc hb) (fun hHeld => ?_)
      clear hK K
      refine norm_ (a' := ?_) ?_ ?_
      rotate_left
      · show Act.put _ (some 6) _ = _
        simp only [Act.put, List.setIfInBounds_toArray, List.set_cons_zero, List.set_cons_succ, i64_w, i32_w]
        rfl
      simpa only [hM] using s4_5 _ x19 x21 x5 _ (below_step hc hb) (f4.keep hb) hx hn
  have s5 : ∀ (w2 : World) (x19 x21 x5 x6 : Value), Below w1.heap.size w1 w2 → Zb w2 w1.heap.size x6 → wpAnyLast Tryz.prog .any ops Q (fun w' => Below w1.heap.size w1 w') [] 5 #[true, false, true, false, false, true, false, false] (M x19 x21 x5 x6) w2 := by
    intro w2 x19 x21 x5 x6 hc f5
    simp only [hM]
    subst hops
    refine with_tab tab6_1 (fun HT_ => ?_)
    refine two_ (i := 1) (j := 4) (Ni := some 19) (Nj := some 5) #[true, true, true, false, false, true, false, false] #[true, false, true, false, true, true, false, false] rfl rfl rfl rfl (two_of HT_.out (by kernel_rfl)) (by decide) (by decide) (fun K hK => ?_) (fun K hK => ?_)
    · refine goes_ Tryz.func8 (by kernel_rfl) rfl #[.agg #[.slice A0 m0 a0, .slice A1 m1 a1, .slice A2 m2 a2]] (by rfl) rfl rfl (by (try simp only [List.map_toArray, List.map_cons, List.map_nil]); first | done | rfl) ?_
      refine (HCf w2 hc).mono ?_
      rintro e w3 ⟨v, rfl, hx, hb⟩
      refine ⟨_, rfl, ?_⟩
      refine hK.out _ _ (below_step hc hb) (fun hHeld => ?_)
      clear hK K
      refine norm_ (a' := ?_) ?_ ?_
      rotate_left
      · show Act.put _ (some 19) _ = _
        simp only [Act.put, List.setIfInBounds_toArray, List.set_cons_zero, List.set_cons_succ, i64_w, i32_w]
        rfl
      simpa only [hM] using s1_5 _ _ x21 x5 x6 (below_step hc hb) hx (f5.keep hb)
    · have hn := f5.lt
      have hb := below_alloc (Below.refl w2.heap.size w2) (.cells #[.slice none 0 0, .slice none 0 0, .slice none 0 0] 25)
      have hx : Zb (w2.alloc (.cells #[.slice none 0 0, .slice none 0 0, .slice none 0 0] 25)) w1.heap.size (.pointer (some ⟨w2.heap.size, 0, none⟩)) := ⟨_, rfl, hc.size, heap_new w2 _⟩
      refine value_ (w1 := ?_) (v := ?_) (by rfl) rfl ?_ ?_
      rotate_left
      rotate_left
      · go_simp
        constructor
        · rfl
        · rfl
      refine hK.out _ _ (below_step hc hb) (fun hHeld => ?_)
      clear hK K
      refine norm_ (a' := ?_) ?_ ?_
      rotate_left
      · show Act.put _ (some 5) _ = _
        simp only [Act.put, List.setIfInBounds_toArray, List.set_cons_zero, List.set_cons_succ, i64_w, i32_w]
        rfl
      simpa only [hM] using s4_5 _ x19 x21 _ x6 (below_step hc hb) hx (f5.keep hb) hn.symm
  have s : ∀ (w2 : World) (x19 x21 x5 x6 : Value), Below w1.heap.size w1 w2 → wpAnyLast Tryz.prog .any ops Q (fun w' => Below w1.heap.size w1 w') [] 6 #[true, false, true, false, false, false, false, false] (M x19 x21 x5 x6) w2 := by
    intro w2 x19 x21 x5 x6 hc
    simp only [hM]
    subst hops
    refine with_tab tab6_1 (fun HT_ => ?_)
    refine three_ (i := 1) (j := 4) (k := 5) (Ni := some 19) (Nj := some 5) (Nk := some 6) #[true, true, true, false, false, false, false, false] #[true, false, true, false, true, false, false, false] #[true, false, true, false, false, true, false, false] rfl rfl rfl rfl rfl rfl (three_of HT_.out (by kernel_rfl)) (by decide) (by decide) (by decide) (fun K hK => ?_) (fun K hK => ?_) (fun K hK => ?_)
    · refine goes_ Tryz.func8 (by kernel_rfl) rfl #[.agg #[.slice A0 m0 a0, .slice A1 m1 a1, .slice A2 m2 a2]] (by rfl) rfl rfl (by (try simp only [List.map_toArray, List.map_cons, List.map_nil]); first | done | rfl) ?_
      refine (HCf w2 hc).mono ?_
      rintro e w3 ⟨v, rfl, hx, hb⟩
      refine ⟨_, rfl, ?_⟩
      refine hK.out _ _ (below_step hc hb) (fun hHeld => ?_)
      clear hK K
      refine norm_ (a' := ?_) ?_ ?_
      rotate_left
      · show Act.put _ (some 19) _ = _
        simp only [Act.put, List.setIfInBounds_toArray, List.set_cons_zero, List.set_cons_succ, i64_w, i32_w]
        rfl
      simpa only [hM] using s1 _ _ x21 x5 x6 (below_step hc hb) hx
    · have hb := below_alloc (Below.refl w2.heap.size w2) (.cells #[.slice none 0 0, .slice none 0 0, .slice none 0 0] 25)
      have hx : Zb (w2.alloc (.cells #[.slice none 0 0, .slice none 0 0, .slice none 0 0] 25)) w1.heap.size (.pointer (some ⟨w2.heap.size, 0, none⟩)) := ⟨_, rfl, hc.size, heap_new w2 _⟩
      refine value_ (w1 := ?_) (v := ?_) (by rfl) rfl ?_ ?_
      rotate_left
      rotate_left
      · go_simp
        constructor
        · rfl
        · rfl
      refine hK.out _ _ (below_step hc hb) (fun hHeld => ?_)
      clear hK K
      refine norm_ (a' := ?_) ?_ ?_
      rotate_left
      · show Act.put _ (some 5) _ = _
        simp only [Act.put, List.setIfInBounds_toArray, List.set_cons_zero, List.set_cons_succ, i64_w, i32_w]
        rfl
      simpa only [hM] using s4 _ x19 x21 _ x6 (below_step hc hb) hx
    · have hb := below_alloc (Below.refl w2.heap.size w2) (.cells #[.slice none 0 0, .slice none 0 0, .slice none 0 0] 25)
      have hx : Zb (w2.alloc (.cells #[.slice none 0 0, .slice none 0 0, .slice none 0 0] 25)) w1.heap.size (.pointer (some ⟨w2.heap.size, 0, none⟩)) := ⟨_, rfl, hc.size, heap_new w2 _⟩
      refine value_ (w1 := ?_) (v := ?_) (by rfl) rfl ?_ ?_
      rotate_left
      rotate_left
      · go_simp
        constructor
        · rfl
        · rfl
      refine hK.out _ _ (below_step hc hb) (fun hHeld => ?_)
      clear hK K
      refine norm_ (a' := ?_) ?_ ?_
      rotate_left
      · show Act.put _ (some 6) _ = _
        simp only [Act.put, List.setIfInBounds_toArray, List.set_cons_zero, List.set_cons_succ, i64_w, i32_w]
        rfl
      simpa only [hM] using s5 _ x19 x21 x5 _ (below_step hc hb) hx
  subst hops
  have hbD := below_drew1 (Below.refl w1.heap.size w1)
  refine start_ (n := 8) (S := fun w' => Below w1.heap.size w1 w') (ds := []) #[false, false, false, false, false, false, false, false] (by kernel_rfl) rfl rfl hbD (fun hHeld => ?_); refine with_tab tab6_1 (fun HT_ => ?_)
  generalize w1.drew = w2 at hbD hHeld ⊢
  refine take_ (i := 0) (N := some 18) (v := ?_) (a' := ?_) #[true, false, false, false, false, false, false, false] rfl rfl (take_of HT_.out (by kernel_rfl)) (fun _ _ _ h => hQp _ _ _ _ _ h) (Or.inl ⟨by rfl, ?_⟩) hHeld ?_ ?_
  rotate_left
  · intro w' hs
    obtain ⟨s0, s1, s2, s3, s4, s5⟩ := six hs D0 D1
    go_simp
    with_reducible rfl
  rotate_left
  · simp only [Act.put, List.setIfInBounds_toArray, List.set_cons_zero, List.set_cons_succ, i64_w, i32_w]
    rfl
  refine take_ (i := 2) (N := some 20) (v := ?_) (a' := ?_) #[true, false, true, false, false, false, false, false] rfl rfl (take_of HT_.out (by kernel_rfl)) (fun _ _ _ h => hQp _ _ _ _ _ h) (Or.inl ⟨by rfl, ?_⟩) hHeld ?_ ?_
  rotate_left
  · intro w' hs
    obtain ⟨s0, s1, s2, s3, s4, s5⟩ := six hs D0 D1
    go_simp
    with_reducible rfl
  rotate_left
  · simp only [Act.put, List.setIfInBounds_toArray, List.set_cons_zero, List.set_cons_succ, i64_w, i32_w]
    rfl
  simpa only [hM] using s _ _ _ _ _ hbD
end Go.Proofs.YtldlenjfpjihdaaGreat.PS
end
