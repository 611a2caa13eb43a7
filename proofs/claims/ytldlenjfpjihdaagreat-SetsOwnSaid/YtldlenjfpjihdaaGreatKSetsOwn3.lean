/- Part 4 of what the proof of SetsOwn stands on: words for walks, printed functions with their contracts, plain laws. -/
import Derived.Test.YtldlenjfpjihdaaGreatKSetsOwn2
section
namespace Go.Proofs.YtldlenjfpjihdaaGreat.PS
open Go Go.RowKit Go.Proofs Go.Proofs.YtldlenjfpjihdaaGreatW.PrintWords Go.Proofs.YtldlenjfpjihdaaGreatW.PrintLast Go.Proofs.YtldlenjfpjihdaaGreatW.PrintMore
set_option linter.unusedVariables false
set_option linter.unusedSimpArgs false
def enc46 (x : S46) : List Value := [.int .i64 x.f0, .int .i64 x.f1, .string x.f2.f0, .string x.f2.f1, .bool x.f2.f2]
/-- A row of ranges in a block, from its first cell on, none of whose cells is frozen. -/
def RowS (w : World) (g : Nat) (xs : List S46) : Prop := ∀ (i : Nat) (x : S46), xs[i]? = some x → ∀ (j : Nat) (u : Value), (enc46 x)[j]? = some u → w.cell? ⟨g, i * 5 + j, none⟩ = some u ∧ w.frozen? ⟨g, i * 5 + j, none⟩ = false
theorem RowS.at0 {w : World} {g : Nat} {xs : List S46} (h : RowS w g xs) {i : Nat} {x : S46} (hi : xs[i]? = some x) : w.cell? ⟨g, i * 5, none⟩ = some (.int .i64 x.f0) ∧ w.cell? ⟨g, i * 5 + 1, none⟩ = some (.int .i64 x.f1) ∧ w.cell? ⟨g, i * 5 + 2, none⟩ = some (.string x.f2.f0) ∧ w.cell? ⟨g, i * 5 + 3, none⟩ = some (.string x.f2.f1) ∧ w.cell? ⟨g, i * 5 + 4, none⟩ = some (.bool x.f2.f2) ∧ w.frozen? ⟨g, i * 5, none⟩ = false ∧ w.frozen? ⟨g, i * 5 + 1, none⟩ = false ∧ w.frozen? ⟨g, i * 5 + 2, none⟩ = false ∧ w.frozen? ⟨g, i * 5 + 3, none⟩ = false ∧ w.frozen? ⟨g, i * 5 + 4, none⟩ = false :=
  ⟨(h i x hi 0 _ rfl).1, (h i x hi 1 _ rfl).1, (h i x hi 2 _ rfl).1, (h i x hi 3 _ rfl).1, (h i x hi 4 _ rfl).1, (h i x hi 0 _ rfl).2, (h i x hi 1 _ rfl).2, (h i x hi 2 _ rfl).2, (h i x hi 3 _ rfl).2, (h i x hi 4 _ rfl).2⟩
theorem RowS.same {w w' : World} {g : Nat} {xs : List S46} (h : RowS w g xs) (e : w'.heap[g]? = w.heap[g]?) : RowS w' g xs := by
  intro i x hi j u hu
  have := h i x hi j u hu
  simpa [World.cell?, World.frozen?, e] using this
theorem RowS.below {w w' : World} {g : Nat} {xs : List S46} (h : RowS w g xs) (hg : g < w.heap.size) (hb : Below w.heap.size w w') : RowS w' g xs := h.same (hb.block g hg)
theorem RowS.lt {w : World} {g : Nat} {xs : List S46} (h : RowS w g xs) (hn : 0 < xs.length) : g < w.heap.size := by
  have := (h 0 _ (List.getElem?_eq_getElem hn) 0 _ rfl).1
  exact World.block_lt_of_cell? w _ this
theorem RowS.take {w : World} {g : Nat} {xs : List S46} (h : RowS w g xs) (n : Nat) : RowS w g (xs.take n) := by
  intro i x hi
  refine h i x ?_
  rw [List.getElem?_take] at hi
  split at hi
  · exact hi
  · cases hi
theorem RowS.C {w : World} {g : Nat} {xs : List S46} (h : RowS w g xs) (hl : xs.length ≤ 9223372036854775807) : Kd.C k46 w (some ⟨g, 0, none⟩) xs.length xs := by
  refine ⟨rfl, hl, fun _ => ⟨_, rfl, fun j p hp => ⟨enc46 p, rfl, k46_mk w p, fun i u hu => ?_⟩⟩⟩
  have := (h j p hp i u hu).1
  rw [add_plain]
  exact this
/-- Behind j elements of which i were kept: the begin is what was kept, the rest is as_ it was. -/
structure KeptRowS (p : S46 → Bool) (xs L : List S46) (i j : Nat) : Prop where
  len : L.length = xs.length
  lt : i < j
  le : j ≤ xs.length
  low : L.take i = (xs.take j).filter fun x => !p x
  high : ∀ k, j ≤ k → L[k]? = xs[k]?
theorem KeptRowS.start {p : S46 → Bool} {xs : List S46} {k : Nat} {y : S46} (hk : k < xs.length) (h : ∀ x ∈ xs.take k, p x = false) (hy : xs[k]? = some y) (hp : p y = true) : KeptRowS p xs xs k (k + 1) := by
  refine ⟨rfl, Nat.lt_succ_self _, hk, ?_, fun _ _ => rfl⟩
  rw [List.take_add_one, hy, List.filter_append, List.filter_eq_self.2 (fun x hx => by rw [h x hx]; rfl)]
  simp [hp]
theorem KeptRowS.skip {p : S46 → Bool} {xs L : List S46} {i j : Nat} {y : S46} (h : KeptRowS p xs L i j) (hy : xs[j]? = some y) (hp : p y = true) : KeptRowS p xs L i (j + 1) := by
  have hj := (List.getElem?_eq_some_iff.1 hy).1
  refine ⟨h.len, Nat.lt_succ_of_lt h.lt, hj, ?_, fun k hk => h.high k (by omega)⟩
  rw [List.take_add_one, hy, List.filter_append, h.low]
  simp [hp]
theorem KeptRowS.keep {p : S46 → Bool} {xs L : List S46} {i j : Nat} {y : S46} (h : KeptRowS p xs L i j) (hy : xs[j]? = some y) (hp : p y = false) : KeptRowS p xs (L.set i y) (i + 1) (j + 1) := by
  have hj := (List.getElem?_eq_some_iff.1 hy).1
  have hlen := h.len
  have hlt := h.lt
  refine ⟨by rw [List.length_set]; exact h.len, by omega, hj, ?_, fun k hk => ?_⟩
  · rw [List.take_add_one, List.getElem?_set_self (by omega), List.take_set_of_le (Nat.le_refl _), h.low, List.take_add_one, hy, List.filter_append]
    simp [hp]
  · rw [List.getElem?_set_ne (by omega)]; exact h.high k (by omega)
theorem RowS.set {w : World} {g : Nat} {xs : List S46} (h : RowS w g xs) (i : Nat) (hi : i < xs.length) (y : S46) : RowS (w.setCells g (i * 5) (enc46 y)) g (xs.set i y) := by
  intro k x hk j u hu
  have hj : j < 5 := by have := (List.getElem?_eq_some_iff.1 hu).1; simpa [enc46] using this
  rw [World.frozen?_setCells]
  by_cases e : i = k
  · subst e
    rw [List.getElem?_set_self hi, Option.some.injEq] at hk
    subst hk
    have hin := World.cell?_setCells_in g (enc46 y) (i * 5) w (fun t ht => by
      have ht3 : t < 5 := by simpa [enc46] using ht
      have := (h i _ (List.getElem?_eq_getElem hi) t ((enc46 xs[i])[t]'(by simpa [enc46] using ht3)) (List.getElem?_eq_getElem _)).1
      rw [this]; rfl) j (by simpa [enc46] using hj)
    refine ⟨?_, (h i _ (List.getElem?_eq_getElem hi) j ((enc46 xs[i])[j]'(by simpa [enc46] using hj)) (List.getElem?_eq_getElem _)).2⟩
    rw [hin]
    have := (List.getElem?_eq_some_iff.1 hu).2
    rw [← this]
  · rw [List.getElem?_set_ne e] at hk
    rw [World.cell?_setCells_out g _ _ _ _ (fun _ _ => by simp [enc46]; omega)]
    exact h k x hk j u hu
theorem RowS.cut {w : World} {g : Nat} {xs : List S46} (h : RowS w g xs) (i : Nat) (vs : List Value) : RowS (w.setCells g (i * 5) vs) g (xs.take i) := by
  intro k x hk j u hu
  have hj : j < 5 := by have := (List.getElem?_eq_some_iff.1 hu).1; simpa [enc46] using this
  rw [List.getElem?_take] at hk
  split at hk
  · rw [World.frozen?_setCells, World.cell?_setCells_out g _ _ _ _ (fun _ _ => by left; show k * 5 + j < i * 5; omega)]
    exact h k x hk j u hu
  · cases hk
/-- 'clear' at ranges: some cells are laid, from the first one on. -/
theorem run_clearRowS (w : World) (b i n c : Nat) (L : List S46) (hR : RowS w b L) (hn : 0 < n) (hL : i + n = L.length) : ∃ vs : List Value, ∀ ty, (Builtin.clear_ #[23] ty #[.slice (some ⟨b, i * 5, none⟩) n c]).run Tryz.prog w = .ok (.tuple #[]) (w.setCells b (i * 5) vs) := by
  have hv := Tryz.zeroValue46
  generalize hz : (Builtin.zeroCells (#[.int .i64 0, .int .i64 0, .string (⟨#[]⟩ : ByteArray), .string (⟨#[]⟩ : ByteArray), .bool false] : Array Value) n).toList = vs
  have hlen : vs.length = n * 5 := by rw [← hz]; simp [Builtin.zeroCells]
  have hone : ∀ v ∈ vs, v.oneCell' = true := by
    intro v hv'
    rw [← hz] at hv'
    simp only [Builtin.zeroCells, Array.toList_map, Array.toList_range, List.mem_map] at hv'
    obtain ⟨j, _, rfl⟩ := hv'
    have h3 : j % 5 = 0 ∨ j % 5 = 1 ∨ j % 5 = 2 ∨ j % 5 = 3 ∨ j % 5 = 4 := by omega
    show (#[Value.int .i64 0, .int .i64 0, .string (⟨#[]⟩ : ByteArray), .string (⟨#[]⟩ : ByteArray), .bool false][j % 5]!).oneCell' = true
    rcases h3 with e | e | e | e | e <;> rw [e] <;> rfl
  have hcell : ∀ j, j < vs.length → (w.cell? ⟨b, i * 5 + j, none⟩).isSome = true ∧ w.frozen? ⟨b, i * 5 + j, none⟩ = false := by
    intro j hj
    rw [hlen] at hj
    have hk : i + j / 5 < L.length := by omega
    have hj3 : j % 5 < (enc46 L[i + j / 5]).length := by show j % 5 < 5; omega
    have := hR (i + j / 5) _ (List.getElem?_eq_getElem hk) (j % 5) _ (List.getElem?_eq_getElem hj3)
    rw [show (i + j / 5) * 5 + j % 5 = i * 5 + j by omega] at this
    exact ⟨by rw [this.1]; rfl, this.2⟩
  have hst := run_storeCells_cells (P := Tryz.prog) b (i * 5) vs 0 w (fun j hj => by simpa using (hcell j hj).1) (fun j hj => by simpa using (hcell j hj).2) hone
  simp only [Nat.add_zero] at hst
  refine ⟨vs, fun ty => ?_⟩
  obtain ⟨m, rfl⟩ : ∃ m, n = m + 1 := ⟨n - 1, by omega⟩
  simp [Builtin.clear_, run_underlying Tryz.underlying23, hv, hz, hst, Value.cells]
set_option maxHeartbeats 4000000 in
set_option maxRecDepth 100000 in
theorem delf_RowS (p : S46 → Bool) (g : Nat) (lb : Array Value) (eg : ∀ args w, (callFunc g args).run Tryz.prog w = .ok (.enter g args) w) (w0 : World) (gb cap : Nat) (xs : List S46) (w : World) (hR : RowS w gb xs) (hl : xs.length ≤ 4611686018427387904) (hcap : xs.length ≤ cap) (h0 : w0.heap.size ≤ gb) (hB : Below w0.heap.size w0 w)
    (hp : ∀ (W : World) (x : S46), Below w0.heap.size w0 W → Calls Tryz.prog g (#[sv x] ++ lb) W fun e w' => e = .returned (.bool (p x)) ∧ Below W.heap.size W w') :
    Calls Tryz.prog 42 #[.slice (some ⟨gb, 0, none⟩) xs.length cap, .func (.func g) #[] lb] w fun e w' => e = .returned (.slice (some ⟨gb, 0, none⟩) (xs.filter fun x => !p x).length cap) ∧ RowS w' gb (xs.filter fun x => !p x) ∧ Below w0.heap.size w0 w' ∧ w.heap.size ≤ w'.heap.size := by
  have hidx := idxf_span p g lb eg (some ⟨gb, 0, none⟩) xs cap w (hR.C (by omega)) (fun W x _ hb => hp W x (below_step hB hb))
  rcases idxF_cases p xs with ⟨e1, hall⟩ | ⟨k0, hk0, e1, hall, y0, hy0, hpy⟩
  · rw [e1] at hidx
    have hf : (xs.filter fun x => !p x) = xs := List.filter_eq_self.2 fun x hx => by rw [hall x hx]; rfl
    rw [hf]
    have HR := Aside0.mk hR
    have HB := Aside0.mk hB
    clear hR hB hp hf hall
    go_enter Tryz.func42, Tryz.ntmps42
    go_wp2_with (go_at_call 60; refine hidx.mono ?_; rintro e w' ⟨rfl, hb'⟩)
    go_ret
    refine ⟨rfl, ?_, below_step HB.out hb', hb'.size⟩
    intro i x hi
    exact RowS.below HR.out (HR.out.lt (by have := (List.getElem?_eq_some_iff.1 hi).1; omega)) hb' i x hi
  · rw [e1] at hidx
    have hlow : (k0 : Int) ≠ -1 := by omega
    have HR := Aside0.mk hR
    have HB := Aside0.mk hB
    have HP := Aside0.mk hp
    have HK := Aside0.mk (KeptRowS.start hk0 hall hy0 hpy)
    clear hR hB hp hall hy0 hpy
    go_enter Tryz.func42, Tryz.ntmps42
    go_wp2_with (go_at_call 60; refine hidx.mono ?_; rintro e w1 ⟨rfl, hb1⟩)
    have hgb := HR.out.lt (by omega)
    have HR1 := Aside0.mk (HR.out.below hgb hb1)
    have HB1 := Aside0.mk (below_step HB.out hb1)
    have HZ := Aside0.mk hb1.size
    have HG := Aside0.mk hgb
    clear hb1 hgb
    go_loopg [5, 6, 7] xs.length (fun gg s5 s6 _ wr => ∃ (i j : Nat) (L : List S46), s5 = .int .i64 i ∧ s6 = .int .i64 j ∧ Aside0 (KeptRowS p xs L i j) ∧ Aside0 (xs.length - j ≤ gg) ∧ Aside0 (RowS wr gb L) ∧ Aside0 (Below w0.heap.size w0 wr) ∧ Aside0 (w.heap.size ≤ wr.heap.size))
    case atStart => exact ⟨k0, k0 + 1, xs, rfl, by go_num, ⟨HK.out⟩, ⟨by omega⟩, ⟨HR1.out⟩, ⟨HB1.out⟩, ⟨HZ.out⟩⟩
    case round =>
      obtain ⟨i, j, L, rfl, rfl, HKk, HM, HRr, HBr, HZr⟩ := hrel
      have hlen := HKk.out.len
      have hij := HKk.out.lt
      have hjn := HKk.out.le
      by_cases hlt : j < xs.length
      · have hltz : (j : Int) < (xs.length : Int) := by omega
        obtain ⟨y, hy⟩ : ∃ y, xs[j]? = some y := ⟨_, List.getElem?_eq_getElem hlt⟩
        have hyL : L[j]? = some y := by rw [HKk.out.high j (Nat.le_refl _)]; exact hy
        obtain ⟨cx0, cx1, cx2, cx3, cx4, fx0, fx1, fx2, fx3, fx4⟩ := HRr.out.at0 hyL
        have hcall : ∀ W, Below w0.heap.size w0 W → Calls Tryz.prog g (#[.agg #[.int .i64 y.f0, .int .i64 y.f1, .string y.f2.f0, .string y.f2.f1, .bool y.f2.f2]] ++ lb) W fun e w' => e = .returned (.bool (p y)) ∧ Below W.heap.size W w' := fun W h => HP.out W y h
        cases hq : p y with
        | true =>
          rw [hq] at hcall
          go_wp2_with (go_at_fn g; refine (hcall _ (below_alloc HBr.out _)).mono ?_; rintro e w' ⟨rfl, hb'⟩)
          have hgr : gb < wr.heap.size := by have := HG.out; have := HZr.out; omega
          have hbA : Below wr.heap.size wr w' := below_step (below_alloc (Below.refl _ wr) _) hb'
          go_roundg (xs.length - (j + 1))
          case measure => have := HM.out; omega
          case rel => exact ⟨i, j + 1, L, rfl, by go_num, ⟨HKk.out.skip hy hq⟩, ⟨Nat.le_refl _⟩, ⟨HRr.out.below hgr hbA⟩, ⟨below_step HBr.out hbA⟩, ⟨Nat.le_trans HZr.out hbA.size⟩⟩
        | false =>
          rw [hq] at hcall
          have hgr : gb < wr.heap.size := by have := HG.out; have := HZr.out; omega
          have hiL : i < L.length := by omega
          have hltI : (i : Int) < (xs.length : Int) := by omega
          go_wp2_with (go_at_fn g; refine (hcall _ (below_alloc HBr.out _)).mono ?_; rintro e w' ⟨rfl, hb'⟩; have hbA : Below wr.heap.size wr w' := below_step (below_alloc (Below.refl _ wr) _) hb'; have HRn := Aside0.mk (HRr.out.below hgr hbA); obtain ⟨dx0, dx1, dx2, dx3, dx4, gx0, gx1, gx2, gx3, gx4⟩ := HRn.out.at0 (List.getElem?_eq_getElem hiL); have vx0 := (hb'.cell (p := ⟨wr.heap.size, 0, none⟩) (by simp)).trans (show _ = some _ by simp; rfl); have vx1 := (hb'.cell (p := ⟨wr.heap.size, 1, none⟩) (by simp)).trans (show _ = some _ by simp; rfl); have vx2 := (hb'.cell (p := ⟨wr.heap.size, 2, none⟩) (by simp)).trans (show _ = some _ by simp; rfl); have vx3 := (hb'.cell (p := ⟨wr.heap.size, 3, none⟩) (by simp)).trans (show _ = some _ by simp; rfl); have vx4 := (hb'.cell (p := ⟨wr.heap.size, 4, none⟩) (by simp)).trans (show _ = some _ by simp; rfl))
          have hRs := HRn.out.set i hiL y
          have hws : (((((w'.setCell ⟨gb, i * 5, none⟩ (.int .i64 y.f0)).setCell ⟨gb, i * 5 + 1, none⟩ (.int .i64 y.f1)).setCell ⟨gb, i * 5 + 2, none⟩ (.string y.f2.f0)).setCell ⟨gb, i * 5 + 3, none⟩ (.string y.f2.f1)).setCell ⟨gb, i * 5 + 4, none⟩ (.bool y.f2.f2)) = w'.setCells gb (i * 5) (enc46 y) := rfl
          rw [hws]
          have hbS := below_sets h0 (enc46 y) (i * 5) (below_step HBr.out hbA)
          have hzS : (w'.setCells gb (i * 5) (enc46 y)).heap.size = w'.heap.size := (setCells_same gb (enc46 y) (i * 5) w').2.2.2
          go_roundg (xs.length - (j + 1))
          case measure => have := HM.out; omega
          case rel => exact ⟨i + 1, j + 1, L.set i y, by go_num, by go_num, ⟨HKk.out.keep hy hq⟩, ⟨Nat.le_refl _⟩, ⟨hRs⟩, ⟨hbS⟩, ⟨by rw [hzS]; exact Nat.le_trans HZr.out hbA.size⟩⟩
      · obtain rfl : j = xs.length := by omega
        have hltz : ¬ (xs.length : Int) < (xs.length : Int) := by omega
        obtain ⟨vs, hcl⟩ := run_clearRowS wr gb i (xs.length - i) (cap - i) L HRr.out (by omega) (by omega)
        have hlow2 := HKk.out.low
        rw [List.take_of_length_le (Nat.le_refl _)] at hlow2
        have hfl : (xs.filter fun x => !p x).length = i := by rw [← hlow2, List.length_take]; omega
        have HL := Aside0.mk hlow2
        have HF := Aside0.mk hfl
        clear hlow2 hfl
        go_wp2
        go_ret
        rw [HF.out, ← HL.out]
        refine ⟨rfl, HRr.out.cut i vs, below_sets h0 vs (i * 5) HBr.out, ?_⟩
        rw [(setCells_same gb vs (i * 5) wr).2.2.2]
        exact HZr.out
theorem info46U : (Tryz.prog.info? 46).map (fun i => (i.zero, i.size, i.bytes)) = some (some (.agg #[(.int .i64 0), (.int .i64 0), (.string (⟨#[]⟩ : ByteArray)), (.string (⟨#[]⟩ : ByteArray)), (.bool false)]), 5, 56) := by kernel_rfl
theorem ownRowS_parts {w : World} {base g n cap : Nat} {xs : List S46} (h : Kd.R k46 46 w base (fun _ => True) (.slice (some ⟨g, 0, none⟩) n cap) xs) : n = xs.length ∧ base ≤ g ∧ xs.length ≤ cap ∧ cap ≤ maxLen ∧ RowS w g xs ∧ ∃ cur, w.heap[g]? = some (.cells cur 46 (0, 0)) ∧ cur.size = cap * 5 := by
  obtain ⟨_, inner, ⟨hlen, hor⟩, hreps⟩ := h
  replace hreps : Reps _ 5 xs inner := hreps
  rcases hor with ⟨e, _⟩ | ⟨g', cap', cur, e, hg, hh, hnc, hcm, hsz, htk⟩
  · simp at e
  · replace hsz : cur.size = cap' * 5 := hsz
    replace htk : cur.toList.take (xs.length * 5) = inner := htk
    simp only [Value.slice.injEq, Option.some.injEq, Addr.mk.injEq, and_true, true_and] at e
    obtain ⟨rfl, rfl, rfl⟩ := e
    refine ⟨rfl, hg, hnc, hcm, ?_, cur, hh, hsz⟩
    intro i x hx j u hu
    have hi := (List.getElem?_eq_some_iff.1 hx).1
    have hj : j < 5 := by have := (List.getElem?_eq_some_iff.1 hu).1; simpa [enc46] using this
    have hM := k46_openM (hreps.2 i x hx)
    have e1 : ((inner.drop (i * 5)).take 5)[j]? = some u := by rw [hM]; exact hu
    rw [List.getElem?_take, if_pos hj, List.getElem?_drop, ← htk, List.getElem?_take, if_pos (by omega)] at e1
    have e2 : cur[i * 5 + j]? = some u := by rw [← Array.getElem?_toList]; exact e1
    exact ⟨by simp [World.cell?, hh, e2], by simp [World.frozen?, hh]⟩
set_option maxHeartbeats 4000000 in
set_option maxRecDepth 100000 in
/-- slices.Clone at ranges. -/
theorem clone_RowS (xs : List S46) (A : Option Addr) (c : Nat) (w : World) (hC : Kd.C k46 w A xs.length xs) (hl : xs.length * 56 ≤ 140737488355328) :
    Calls Tryz.prog 43 #[.slice A xs.length c] w fun e w' => (A = none ∧ e = .returned (.slice none 0 0) ∧ w' = w) ∨ A ≠ none ∧ ∃ g cap, e = .returned (.slice (some ⟨g, 0, none⟩) xs.length cap) ∧ w.heap.size ≤ g ∧ g < w'.heap.size ∧ xs.length ≤ cap ∧ RowS w' g xs ∧ Below w.heap.size w w' := by
  cases A with
  | none =>
    clear hC
    have qS : ∀ (w : World) (a : Option Addr) (n c n' c' : Nat), (binOp .eql 23 (.slice a n c) (.slice none n' c')).run Tryz.prog w = .ok (.bool a.isNone) w := fun w a n c n' c' => Go.Lib.run_eql_slice_nil w _ _ a n c n' c' Tryz.underlying23
    have uS : ∀ w, Sem.run Tryz.prog (underlying 23) w = .ok (TypeDesc.slice 46) w := run_underlying Tryz.underlying23
    go_enter Tryz.func43, Tryz.ntmps43
    go_wp2
    go_ret
    first | exact .inl ⟨rfl, rfl, rfl⟩ | simp
  | some ad =>
    obtain ⟨inner, hrep, hcells⟩ := ReadsRow.inner_ hC
    replace hrep : Reps (k46.K w) 5 xs inner := hrep
    have hlen := hrep.1
    have hone : ∀ u ∈ inner, u.oneCell' = true := by
      intro u hu
      obtain ⟨t, ht, e⟩ := List.getElem_of_mem hu
      have hk : t / 5 < xs.length := by omega
      have hK := k46_open (hrep.2 (t / 5) _ (List.getElem?_eq_getElem hk))
      have e1 : ((inner.drop (t / 5 * 5)).take 5)[t % 5]? = some u := by rw [List.getElem?_take, if_pos (by omega), List.getElem?_drop, show t / 5 * 5 + t % 5 = t by omega, List.getElem?_eq_getElem ht, e]
      rw [hK] at e1
      have h3 : t % 5 = 0 ∨ t % 5 = 1 ∨ t % 5 = 2 ∨ t % 5 = 3 ∨ t % 5 = 4 := by omega
      rcases h3 with q | q | q | q | q <;> rw [q] at e1 <;> (obtain rfl := Option.some.inj e1) <;> rfl
    have HI := Aside0.mk hrep
    have HC := Aside0.mk hcells
    have HL := Aside0.mk hlen
    have H1 := Aside0.mk hone
    obtain ⟨i0, hi, hz0, hz1, hz2⟩ := info_parts info46U
    clear hC hrep hcells hone hlen
    have qS : ∀ (w : World) (a : Option Addr) (n c n' c' : Nat), (binOp .eql 23 (.slice a n c) (.slice none n' c')).run Tryz.prog w = .ok (.bool a.isNone) w := fun w a n c n' c' => Go.Lib.run_eql_slice_nil w _ _ a n c n' c' Tryz.underlying23
    have uS : ∀ w, Sem.run Tryz.prog (underlying 23) w = .ok (TypeDesc.slice 46) w := run_underlying Tryz.underlying23
    go_enter Tryz.func43, Tryz.ntmps43
    go_wp2_with (at_builtin; refine wpList_append_own _ rfl _ _ 23 rfl w.heap.size 46 i0 (.agg #[(.int .i64 0), (.int .i64 0), (.string (⟨#[]⟩ : ByteArray)), (.string (⟨#[]⟩ : ByteArray)), (.bool false)]) 5 56 Tryz.underlying23 hi hz0 hz1 hz2 rfl (by decide) _ _ _ rfl (World.ownsRow_made w #[] 0 (Nat.le_refl _) (Nat.zero_le _) rfl) ad xs.length c inner rfl ?qc1 ?qc2 ?qc3 ?qc4 ?qc5 ?qc6 ?_)
    case qc1 => exact HL.out
    case qc2 => intro j u hj; exact Go.Lib.cell?_alloc_some _ (HC.out j u hj)
    case qc3 => exact H1.out
    case qc4 => unfold maxLen; omega
    case qc5 => omega
    case qc6 => simp
    intro v' w1 hown hgrow hnil
    go_wp2
    go_ret
    have hne : v' ≠ .slice none 0 0 := fun e => by first | exact hnil e | (have := (hnil.1 e).1; simp at this)
    have hown2 : w1.ownsRow w.heap.size 46 5 v' xs.length inner := by simpa using hown
    have hR : Kd.R k46 46 w1 w.heap.size (fun _ => True) v' xs := ⟨fun _ _ => trivial, inner, hown2, HI.out.imp_ fun p cs hp => by rw [k46_open hp]; exact k46_mkM _ _ _ p⟩
    have hb : Below w.heap.size w w1 := ((Below.refl _ w).alloc (Nat.le_refl _) _).grown hgrow (by simp) (by intro k hk; simp [Value.ownBlock] at hk; omega)
    rcases hown2.2 with ⟨e, _⟩ | ⟨g, cap, cur, rfl, hg, hh, hnc, _⟩
    · exact absurd e hne
    · obtain ⟨_, _, hcap, _, hrow, _, _, _⟩ := ownRowS_parts hR
      exact .inr ⟨by simp, g, cap, by simp, hg, blk_lt hh, hcap, hrow, hb⟩
end Go.Proofs.YtldlenjfpjihdaaGreat.PS
end
section
namespace Go.Proofs.YtldlenjfpjihdaaGreat.PS
open Go Go.RowKit Go.Proofs Go.Maps Go.Proofs.YtldlenjfpjihdaaGreatW.PrintWords Go.Proofs.YtldlenjfpjihdaaGreatW.PrintLast Go.Proofs.YtldlenjfpjihdaaGreatW.PrintMore
set_option linter.unusedVariables false
set_option linter.unusedSimpArgs false
theorem results_c1 {P : Program} {fn : Func} {p : Tmp} {ty : TypeId} (h : fn.results = #[.cell p ty]) (tmps : Array Value) (w : World) (g : Nat) (t : TypeId) (cs : Array Value) (fr : Nat × Nat) (d : TypeDesc)
    (hp : tmps.getD p undef = .pointer (some ⟨g, 0, none⟩)) (hg : w.heap[g]? = some (.cells cs t fr))
    (hu : P.underlying ty = some d) (hd : (match d with | .struct _ | .array _ _ => true | _ => false) = true) (hi : (P.info? ty).map (·.size) = some cs.size) :
    (results fn tmps).run P w = .ok (.agg cs) w := by
  have hp' : tmps[p]?.getD undef = .pointer (some ⟨g, 0, none⟩) := by simpa using hp
  simp [results, h, hp', asAddr, run_loadVar_row w g t ty cs fr d hg hu hd hi]
/-- A row of one's own, or none. -/
def ClP (W : World) (base : Nat) (v : Value) (xs : List S37) : Prop := (v = .slice none 0 0 ∧ xs = []) ∨ ∃ g cap, v = .slice (some ⟨g, 0, none⟩) xs.length cap ∧ base ≤ g ∧ g < W.heap.size ∧ xs.length ≤ cap ∧ RowP W g xs
theorem ClP.below {w w' : World} {base : Nat} {v : Value} {xs : List S37} (h : ClP w base v xs) (hb : Below w.heap.size w w') : ClP w' base v xs := by
  rcases h with h | ⟨g, cap, e, h1, h2, h3, h4⟩
  · exact .inl h
  · exact .inr ⟨g, cap, e, h1, Nat.lt_of_lt_of_le h2 hb.size, h3, h4.below h2 hb⟩
theorem ClP.far {w w' : World} {base : Nat} {v : Value} {xs : List S37} (h : ClP w base v xs) (b : Nat) (hb : b ≤ base) (hk : ∀ k, base ≤ k → w'.heap[k]? = w.heap[k]?) (hz : w.heap.size ≤ w'.heap.size) : ClP w' b v xs := by
  rcases h with h | ⟨g, cap, e, h1, h2, h3, h4⟩
  · exact .inl h
  · exact .inr ⟨g, cap, e, Nat.le_trans hb h1, Nat.lt_of_lt_of_le h2 hz, h3, h4.same (hk g h1)⟩
theorem ClP.form {w : World} {base : Nat} {v : Value} {xs : List S37} (h : ClP w base v xs) : ∃ A n c, v = .slice A n c := by
  rcases h with ⟨rfl, _⟩ | ⟨g, cap, rfl, _⟩
  · exact ⟨_, _, _, rfl⟩
  · exact ⟨_, _, _, rfl⟩
theorem ClP.reads {w : World} {base : Nat} {v : Value} {xs : List S37} (h : ClP w base v xs) (hl : xs.length ≤ 9223372036854775807) : ∃ A c, v = .slice A xs.length c ∧ xs.length ≤ c ∧ Kd.C k37 w A xs.length xs := by
  rcases h with ⟨rfl, rfl⟩ | ⟨g, cap, e, h1, h2, h3, h4⟩
  · exact ⟨none, 0, rfl, Nat.le_refl _, (Kd.R_reads' (Kd.R_nil k37 37 w 0 (fun _ => True))).2.2⟩
  · exact ⟨_, cap, e, h3, h4.C hl⟩
theorem clone_P (xs : List S37) (A : Option Addr) (c : Nat) (w : World) (hC : Kd.C k37 w A xs.length xs) (hl : xs.length * 32 ≤ 140737488355328) :
    Calls Tryz.prog 41 #[.slice A xs.length c] w fun e w' => ∃ v, e = .returned v ∧ ClP w' w.heap.size v xs ∧ Below w.heap.size w w' := by
  refine (clone_RowP xs A c w hC hl).mono ?_
  rintro e w' (⟨rfl, rfl, rfl⟩ | ⟨_, g, cap, rfl, h1, h2, h3, h4, h5⟩)
  · refine ⟨_, rfl, .inl ⟨rfl, ?_⟩, Below.refl _ _⟩
    cases xs with
    | nil => rfl
    | cons y r =>
      obtain ⟨ad, e, _⟩ := at_T37 hC 0 (by decide) (by simp only [List.length_cons]; omega)
      cases e
  · exact ⟨_, rfl, .inr ⟨g, cap, rfl, h1, h2, h3, h4⟩, h5⟩
theorem delf_P (p : S37 → Bool) (g : Nat) (lb : Array Value) (eg : ∀ args w, (callFunc g args).run Tryz.prog w = .ok (.enter g args) w) (w0 w : World) (v : Value) (xs : List S37) (hv : ClP w w0.heap.size v xs) (hl : xs.length ≤ 4611686018427387904) (hB : Below w0.heap.size w0 w)
    (hp : ∀ (W : World) (x : S37), Below w0.heap.size w0 W → Calls Tryz.prog g (#[pv x] ++ lb) W fun e w' => e = .returned (.bool (p x)) ∧ Below W.heap.size W w') :
    Calls Tryz.prog 40 #[v, .func (.func g) #[] lb] w fun e w' => ∃ v', e = .returned v' ∧ ClP w' w0.heap.size v' (xs.filter fun x => !p x) ∧ Below w0.heap.size w0 w' := by
  rcases hv with ⟨rfl, rfl⟩ | ⟨gb, cap, rfl, h1, h2, h3, h4⟩
  · have hi := idxf_point p g lb eg none [] 0 w (Kd.R_reads' (Kd.R_nil k37 37 w 0 (fun _ => True))).2.2 (fun W x hx => by cases hx)
    rw [show idxF p [] = -1 from rfl] at hi
    have hi2 : Calls Tryz.prog 59 #[.slice none 0 0, .func (.func g) #[] lb] w fun e w' => e = .returned (.int .i64 (-1)) ∧ Below w.heap.size w w' := hi
    have HB := Aside0.mk hB
    clear hi hp hB
    go_enter Tryz.func40, Tryz.ntmps40
    go_wp2_with (go_at_call 59; refine hi2.mono ?_; rintro e w' ⟨rfl, hb⟩)
    go_ret
    exact ⟨_, rfl, .inl ⟨rfl, rfl⟩, below_step HB.out hb⟩
  · refine (delf_RowP p g lb eg w0 gb cap xs w h4 hl h3 h1 hB hp).mono ?_
    rintro e w' ⟨rfl, h5, h6, h7⟩
    exact ⟨_, rfl, .inr ⟨gb, cap, rfl, h1, Nat.lt_of_lt_of_le h2 h7, Nat.le_trans (List.length_filter_le _ _) h3, h5⟩, h6⟩
/-- A row of one's own, or none. -/
def ClS (W : World) (base : Nat) (v : Value) (xs : List S46) : Prop := (v = .slice none 0 0 ∧ xs = []) ∨ ∃ g cap, v = .slice (some ⟨g, 0, none⟩) xs.length cap ∧ base ≤ g ∧ g < W.heap.size ∧ xs.length ≤ cap ∧ RowS W g xs
theorem ClS.below {w w' : World} {base : Nat} {v : Value} {xs : List S46} (h : ClS w base v xs) (hb : Below w.heap.size w w') : ClS w' base v xs := by
  rcases h with h | ⟨g, cap, e, h1, h2, h3, h4⟩
  · exact .inl h
  · exact .inr ⟨g, cap, e, h1, Nat.lt_of_lt_of_le h2 hb.size, h3, h4.below h2 hb⟩
theorem ClS.far {w w' : World} {base : Nat} {v : Value} {xs : List S46} (h : ClS w base v xs) (b : Nat) (hb : b ≤ base) (hk : ∀ k, base ≤ k → w'.heap[k]? = w.heap[k]?) (hz : w.heap.size ≤ w'.heap.size) : ClS w' b v xs := by
  rcases h with h | ⟨g, cap, e, h1, h2, h3, h4⟩
  · exact .inl h
  · exact .inr ⟨g, cap, e, Nat.le_trans hb h1, Nat.lt_of_lt_of_le h2 hz, h3, h4.same (hk g h1)⟩
theorem ClS.form {w : World} {base : Nat} {v : Value} {xs : List S46} (h : ClS w base v xs) : ∃ A n c, v = .slice A n c := by
  rcases h with ⟨rfl, _⟩ | ⟨g, cap, rfl, _⟩
  · exact ⟨_, _, _, rfl⟩
  · exact ⟨_, _, _, rfl⟩
theorem ClS.reads {w : World} {base : Nat} {v : Value} {xs : List S46} (h : ClS w base v xs) (hl : xs.length ≤ 9223372036854775807) : ∃ A c, v = .slice A xs.length c ∧ xs.length ≤ c ∧ Kd.C k46 w A xs.length xs := by
  rcases h with ⟨rfl, rfl⟩ | ⟨g, cap, e, h1, h2, h3, h4⟩
  · exact ⟨none, 0, rfl, Nat.le_refl _, (Kd.R_reads' (Kd.R_nil k46 46 w 0 (fun _ => True))).2.2⟩
  · exact ⟨_, cap, e, h3, h4.C hl⟩
theorem clone_S (xs : List S46) (A : Option Addr) (c : Nat) (w : World) (hC : Kd.C k46 w A xs.length xs) (hl : xs.length * 56 ≤ 140737488355328) :
    Calls Tryz.prog 43 #[.slice A xs.length c] w fun e w' => ∃ v, e = .returned v ∧ ClS w' w.heap.size v xs ∧ Below w.heap.size w w' := by
  refine (clone_RowS xs A c w hC hl).mono ?_
  rintro e w' (⟨rfl, rfl, rfl⟩ | ⟨_, g, cap, rfl, h1, h2, h3, h4, h5⟩)
  · refine ⟨_, rfl, .inl ⟨rfl, ?_⟩, Below.refl _ _⟩
    cases xs with
    | nil => rfl
    | cons y r =>
      obtain ⟨ad, e, _⟩ := at_T46 hC 0 (by decide) (by simp only [List.length_cons]; omega)
      cases e
  · exact ⟨_, rfl, .inr ⟨g, cap, rfl, h1, h2, h3, h4⟩, h5⟩
theorem delf_S (p : S46 → Bool) (g : Nat) (lb : Array Value) (eg : ∀ args w, (callFunc g args).run Tryz.prog w = .ok (.enter g args) w) (w0 w : World) (v : Value) (xs : List S46) (hv : ClS w w0.heap.size v xs) (hl : xs.length ≤ 4611686018427387904) (hB : Below w0.heap.size w0 w)
    (hp : ∀ (W : World) (x : S46), Below w0.heap.size w0 W → Calls Tryz.prog g (#[sv x] ++ lb) W fun e w' => e = .returned (.bool (p x)) ∧ Below W.heap.size W w') :
    Calls Tryz.prog 42 #[v, .func (.func g) #[] lb] w fun e w' => ∃ v', e = .returned v' ∧ ClS w' w0.heap.size v' (xs.filter fun x => !p x) ∧ Below w0.heap.size w0 w' := by
  rcases hv with ⟨rfl, rfl⟩ | ⟨gb, cap, rfl, h1, h2, h3, h4⟩
  · have hi := idxf_span p g lb eg none [] 0 w (Kd.R_reads' (Kd.R_nil k46 46 w 0 (fun _ => True))).2.2 (fun W x hx => by cases hx)
    rw [show idxF p [] = -1 from rfl] at hi
    have hi2 : Calls Tryz.prog 60 #[.slice none 0 0, .func (.func g) #[] lb] w fun e w' => e = .returned (.int .i64 (-1)) ∧ Below w.heap.size w w' := hi
    have HB := Aside0.mk hB
    clear hi hp hB
    go_enter Tryz.func42, Tryz.ntmps42
    go_wp2_with (go_at_call 60; refine hi2.mono ?_; rintro e w' ⟨rfl, hb⟩)
    go_ret
    exact ⟨_, rfl, .inl ⟨rfl, rfl⟩, below_step HB.out hb⟩
  · refine (delf_RowS p g lb eg w0 gb cap xs w h4 hl h3 h1 hB hp).mono ?_
    rintro e w' ⟨rfl, h5, h6, h7⟩
    exact ⟨_, rfl, .inr ⟨gb, cap, rfl, h1, Nat.lt_of_lt_of_le h2 h7, Nat.le_trans (List.length_filter_le _ _) h3, h5⟩, h6⟩
set_option maxHeartbeats 4000000 in
theorem in_point (x : S37) (t : Int) (b : Nat) (w : World) (hb : w.heap[b]? = some (.cells #[.int .i64 t] 3)) :
    Calls Tryz.prog 39 (#[pv x] ++ #[.pointer (some ⟨b, 0, none⟩)]) w fun e w' => e = .returned (.bool (x.f0 == t)) ∧ Below w.heap.size w w' := by
  have h0 : w.cell? ⟨b, 0, none⟩ = some (.int .i64 t) := cell_of hb 0
  have hlt := lt_of hb
  have n1 : (b = w.heap.size) = False := eq_false (by omega)
  clear hb
  unfold pv
  go_enter Tryz.func39, Tryz.ntmps39
  go_wp2
  go_ret
  exact ⟨rfl, below_alloc (Below.refl _ _) _⟩
theorem enter39 : ∀ args w, (callFunc 39 args).run Tryz.prog w = .ok (.enter 39 args) w := fun args w => by simp [go_sem]
set_option maxHeartbeats 4000000 in
theorem in_span (x : S46) (t : Int) (b : Nat) (w : World) (hb : w.heap[b]? = some (.cells #[.int .i64 t] 3)) :
    Calls Tryz.prog 44 (#[sv x] ++ #[.pointer (some ⟨b, 0, none⟩)]) w fun e w' => e = .returned (.bool (x.f0 == t)) ∧ Below w.heap.size w w' := by
  have h0 : w.cell? ⟨b, 0, none⟩ = some (.int .i64 t) := cell_of hb 0
  have hlt := lt_of hb
  have n1 : (b = w.heap.size) = False := eq_false (by omega)
  clear hb
  unfold sv
  go_enter Tryz.func44, Tryz.ntmps44
  go_wp2
  go_ret
  exact ⟨rfl, below_alloc (Below.refl _ _) _⟩
theorem enter44 : ∀ args w, (callFunc 44 args).run Tryz.prog w = .ok (.enter 44 args) w := fun args w => by simp [go_sem]
def T12 : Bool × List (List Nat × List Nat) := (true, [([], []), ([0], [0]), ([1], [1]), ([], []), ([2, 3, 2], [2, 3]), ([], []), ([5], [5]), ([6, 4], [6]), ([], []), ([7, 8, 7], [7, 8]), ([], []), ([10], [10]), ([11, 9], [11]), ([], []), ([12, 13, 12], [12, 13]), ([4, 9, 14], [4, 9, 14]), ([15, 14, 0, 1, 2, 3, 4, 5, 6, 7, 8, 9, 10, 11, 12, 13, 14, 15], [15])])
theorem tab12 : rtab .any (opsOf Tryz.f18 2) = T12 := by kernel_rfl
set_option maxHeartbeats 8000000 in
set_option maxRecDepth 100000 in
theorem without_any (ps : List S37) (ss : List S46) (ws : List S37) (A0 A1 A2 : Option Addr) (c0 c1 c2 : Nat) (t : Int) (w : World) (h0 : Kd.C k37 w A0 ps.length ps) (h1 : Kd.C k46 w A1 ss.length ss) (h2 : Kd.C k37 w A2 ws.length ws)
    (hl0 : ps.length * 32 ≤ 140737488355328) (hl1 : ss.length * 56 ≤ 140737488355328) (hl2 : ws.length * 32 ≤ 140737488355328) :
    Calls Tryz.prog 18 #[.agg #[.slice A0 ps.length c0, .slice A1 ss.length c1, .slice A2 ws.length c2], .int .i64 t] w fun e w' => ∃ v0 v1 v2, e = .returned (.agg #[v0, v1, v2]) ∧ ClP w' w.heap.size v0 (ps.filter fun x => !(x.f0 == t)) ∧ ClS w' w.heap.size v1 (ss.filter fun x => !(x.f0 == t)) ∧ ClP w' w.heap.size v2 (ws.filter fun x => !(x.f0 == t)) ∧ Below w.heap.size w w' := by
  generalize hW : ((w.alloc (.cells #[.slice A0 ps.length c0, .slice A1 ss.length c1, .slice A2 ws.length c2] 25)).alloc (.cells #[.int .i64 t] 3)).alloc (.cells #[.slice none 0 0, .slice none 0 0, .slice none 0 0] 25) = w1
  have hB1 : Below w.heap.size w w1 := by rw [← hW]; exact below_alloc (below_alloc (below_alloc (Below.refl _ _) _) _) _
  have b0 : w1.heap[w.heap.size]? = some (.cells #[.slice A0 ps.length c0, .slice A1 ss.length c1, .slice A2 ws.length c2] 25) := by rw [← hW]; exact heap_old (heap_old (heap_new _ _))
  have b1 : w1.heap[w.heap.size + 1]? = some (.cells #[.int .i64 t] 3) := by rw [← hW]; have := heap_new (w.alloc (.cells #[.slice A0 ps.length c0, .slice A1 ss.length c1, .slice A2 ws.length c2] 25)) (.cells #[.int .i64 t] 3); rw [size_new] at this; exact heap_old this
  have b2 : w1.heap[w.heap.size + 1 + 1]? = some (.cells #[.slice none 0 0, .slice none 0 0, .slice none 0 0] 25) := by rw [← hW]; have := heap_new ((w.alloc (.cells #[.slice A0 ps.length c0, .slice A1 ss.length c1, .slice A2 ws.length c2] 25)).alloc (.cells #[.int .i64 t] 3)) (.cells #[.slice none 0 0, .slice none 0 0, .slice none 0 0] 25); rw [size_new, size_new] at this; exact this
  have HC0 := Aside0.mk h0
  have HC1 := Aside0.mk h1
  have HC2 := Aside0.mk h2
  have HB1 := Aside0.mk hB1
  have HW := Aside0.mk hW
  have D0 := Aside0.mk b0
  have D1 := Aside0.mk b1
  have D2 := Aside0.mk b2
  clear h0 h1 h2 hB1 hW b0 b1 b2
  go_enter Tryz.func18, Tryz.ntmps18
  go_wp2
  rw [HW.out]
  clear HW
  have m0 : w1.cell? ⟨w.heap.size, 0, none⟩ = some (.slice A0 ps.length c0) := cell_of D0.out 0
  have m1 : w1.cell? ⟨w.heap.size, 1, none⟩ = some (.slice A1 ss.length c1) := cell_of D0.out 1
  have m2 : w1.cell? ⟨w.heap.size, 2, none⟩ = some (.slice A2 ws.length c2) := cell_of D0.out 2
  refine start_ (n := 17) (S := fun w' => w'.cell? ⟨w.heap.size, 0, none⟩ = some (.slice A0 ps.length c0) ∧ w'.cell? ⟨w.heap.size, 1, none⟩ = some (.slice A1 ss.length c1) ∧ w'.cell? ⟨w.heap.size, 2, none⟩ = some (.slice A2 ws.length c2)) (ds := [16]) #[false, false, false, false, false, false, false, false, false, false, false, false, false, false, false, false, false] (by kernel_rfl) rfl rfl ⟨m0, m1, m2⟩ (fun hHeld => ?_); refine with_tab tab12 (fun HT_ => ?_)
  have HB2 := Aside0.mk (below_drew1 (Below.refl w1.heap.size w1))
  generalize w1.drew = w2 at HB2 hHeld ⊢
  clear m0 m1 m2
  refine pure_ (i := 0) (N := some 7) (v := ?_) (a' := ?_) #[true, false, false, false, false, false, false, false, false, false, false, false, false, false, false, false, false] rfl rfl (any_of HT_.out (by kernel_rfl)) (fun _ _ _ h => h) (Or.inl ⟨by rfl, ?_⟩) ?_ ?_
  rotate_left
  · intro w'
    go_simp
    with_reducible rfl
  rotate_left
  · simp only [Act.put, List.setIfInBounds_toArray, List.set_cons_zero, List.set_cons_succ, i64_w, i32_w]
    rfl
  refine take_ (i := 1) (N := some 8) (v := ?_) (a' := ?_) #[true, true, false, false, false, false, false, false, false, false, false, false, false, false, false, false, false] rfl rfl (take_of HT_.out (by kernel_rfl)) (fun _ _ _ h => h) (Or.inl ⟨by rfl, ?_⟩) hHeld ?_ ?_
  rotate_left
  · rintro w' ⟨s0, s1, s2⟩
    go_simp
    with_reducible rfl
  rotate_left
  · simp only [Act.put, List.setIfInBounds_toArray, List.set_cons_zero, List.set_cons_succ, i64_w, i32_w]
    rfl
  refine pure_ (i := 3) (N := some 10) (v := ?_) (a' := ?_) #[true, true, false, true, false, false, false, false, false, false, false, false, false, false, false, false, false] rfl rfl (any_of HT_.out (by kernel_rfl)) (fun _ _ _ h => h) (Or.inl ⟨by rfl, ?_⟩) ?_ ?_
  rotate_left
  · intro w'
    go_simp
    with_reducible rfl
  rotate_left
  · simp only [Act.put, List.setIfInBounds_toArray, List.set_cons_zero, List.set_cons_succ, i64_w, i32_w]
    rfl
  refine pure_ (i := 5) (N := some 12) (v := ?_) (a' := ?_) #[true, true, false, true, false, true, false, false, false, false, false, false, false, false, false, false, false] rfl rfl (any_of HT_.out (by kernel_rfl)) (fun _ _ _ h => h) (Or.inl ⟨by rfl, ?_⟩) ?_ ?_
  rotate_left
  · intro w'
    go_simp
    with_reducible rfl
  rotate_left
  · simp only [Act.put, List.setIfInBounds_toArray, List.set_cons_zero, List.set_cons_succ, i64_w, i32_w]
    rfl
  refine take_ (i := 6) (N := some 13) (v := ?_) (a' := ?_) #[true, true, false, true, false, true, true, false, false, false, false, false, false, false, false, false, false] rfl rfl (take_of HT_.out (by kernel_rfl)) (fun _ _ _ h => h) (Or.inl ⟨by rfl, ?_⟩) hHeld ?_ ?_
  rotate_left
  · rintro w' ⟨s0, s1, s2⟩
    go_simp
    with_reducible rfl
  rotate_left
  · simp only [Act.put, List.setIfInBounds_toArray, List.set_cons_zero, List.set_cons_succ, i64_w, i32_w]
    rfl
  refine pure_ (i := 8) (N := some 15) (v := ?_) (a' := ?_) #[true, true, false, true, false, true, true, false, true, false, false, false, false, false, false, false, false] rfl rfl (any_of HT_.out (by kernel_rfl)) (fun _ _ _ h => h) (Or.inl ⟨by rfl, ?_⟩) ?_ ?_
  rotate_left
  · intro w'
    go_simp
    with_reducible rfl
  rotate_left
  · simp only [Act.put, List.setIfInBounds_toArray, List.set_cons_zero, List.set_cons_succ, i64_w, i32_w]
    rfl
  refine pure_ (i := 10) (N := some 17) (v := ?_) (a' := ?_) #[true, true, false, true, false, true, true, false, true, false, true, false, false, false, false, false, false] rfl rfl (any_of HT_.out (by kernel_rfl)) (fun _ _ _ h => h) (Or.inl ⟨by rfl, ?_⟩) ?_ ?_
  rotate_left
  · intro w'
    go_simp
    with_reducible rfl
  rotate_left
  · simp only [Act.put, List.setIfInBounds_toArray, List.set_cons_zero, List.set_cons_succ, i64_w, i32_w]
    rfl
  refine take_ (i := 11) (N := some 18) (v := ?_) (a' := ?_) #[true, true, false, true, false, true, true, false, true, false, true, true, false, false, false, false, false] rfl rfl (take_of HT_.out (by kernel_rfl)) (fun _ _ _ h => h) (Or.inl ⟨by rfl, ?_⟩) hHeld ?_ ?_
  rotate_left
  · rintro w' ⟨s0, s1, s2⟩
    go_simp
    with_reducible rfl
  rotate_left
  · simp only [Act.put, List.setIfInBounds_toArray, List.set_cons_zero, List.set_cons_succ, i64_w, i32_w]
    rfl
  refine pure_ (i := 13) (N := some 20) (v := ?_) (a' := ?_) #[true, true, false, true, false, true, true, false, true, false, true, true, false, true, false, false, false] rfl rfl (any_of HT_.out (by kernel_rfl)) (fun _ _ _ h => h) (Or.inl ⟨by rfl, ?_⟩) ?_ ?_
  rotate_left
  · intro w'
    go_simp
    with_reducible rfl
  rotate_left
  · simp only [Act.put, List.setIfInBounds_toArray, List.set_cons_zero, List.set_cons_succ, i64_w, i32_w]
    rfl
  refine one_ (i := 2) (N := some 9) #[true, true, true, true, false, true, true, false, true, false, true, true, false, true, false, false, false] rfl rfl (one_of HT_.out (by kernel_rfl)) (by decide) (fun K hK => ?_)
  refine goes_ Tryz.func41 (by kernel_rfl) rfl #[.slice A0 ps.length c0] (by rfl) rfl rfl (by (try simp only [List.map_toArray, List.map_cons, List.map_nil]); first | done | rfl) ?_
  refine (clone_P ps A0 c0 w2 (Kd.C_below HC0.out (below_step HB1.out HB2.out)) hl0).mono ?_
  rintro e w3 ⟨v3, rfl, hv, hb⟩; have HV3 := Aside0.mk hv; have HB3' := Aside0.mk hb; have HB3 := Aside0.mk (below_step HB2.out hb); clear hv hb
  refine ⟨_, rfl, ?_⟩
  have hHn := (⟨(HB3.out.cell (World.block_lt_of_cell? _ _ (cell_of D0.out 0 : w1.cell? ⟨w.heap.size, 0, none⟩ = some (.slice A0 ps.length c0)))).trans (cell_of D0.out 0), (HB3.out.cell (World.block_lt_of_cell? _ _ (cell_of D0.out 1 : w1.cell? ⟨w.heap.size, 1, none⟩ = some (.slice A1 ss.length c1)))).trans (cell_of D0.out 1), (HB3.out.cell (World.block_lt_of_cell? _ _ (cell_of D0.out 2 : w1.cell? ⟨w.heap.size, 2, none⟩ = some (.slice A2 ws.length c2)))).trans (cell_of D0.out 2)⟩ : w3.cell? ⟨w.heap.size, 0, none⟩ = some (.slice A0 ps.length c0) ∧ w3.cell? ⟨w.heap.size, 1, none⟩ = some (.slice A1 ss.length c1) ∧ w3.cell? ⟨w.heap.size, 2, none⟩ = some (.slice A2 ws.length c2))
  refine hK.out _ _ hHn (fun hHeld3 => ?_)
  clear hHn
  clear hK K
  refine norm_ (a' := ?_) ?_ ?_
  rotate_left
  · show Act.put _ (some 9) _ = _
    simp only [Act.put, List.setIfInBounds_toArray, List.set_cons_zero, List.set_cons_succ, i64_w, i32_w]
    rfl
  refine one_ (i := 4) (N := some 11) #[true, true, true, true, true, true, true, false, true, false, true, true, false, true, false, false, false] rfl rfl (one_of HT_.out (by kernel_rfl)) (by decide) (fun K hK => ?_)
  refine goes_ Tryz.func40 (by kernel_rfl) rfl #[v3, .func (.func 39) #[] #[.pointer (some ⟨w.heap.size + 1, 0, none⟩)]] (by rfl) rfl rfl (by (try simp only [List.map_toArray, List.map_cons, List.map_nil]); first | done | rfl) ?_
  refine (delf_P (fun x => x.f0 == t) 39 #[.pointer (some ⟨w.heap.size + 1, 0, none⟩)] enter39 w2 w3 v3 ps HV3.out (by omega) HB3'.out (fun W x hW => in_point x t _ W ((hW.block _ (Nat.lt_of_lt_of_le (lt_of D1.out) HB2.out.size)).trans ((HB2.out.block _ (lt_of D1.out)).trans D1.out)))).mono ?_
  rintro e w4 ⟨v4, rfl, hv, hb⟩; have HV4 := Aside0.mk hv; have HB4 := Aside0.mk (below_step HB2.out hb); clear hv hb
  refine ⟨_, rfl, ?_⟩
  have hHn := (⟨(HB4.out.cell (World.block_lt_of_cell? _ _ (cell_of D0.out 0 : w1.cell? ⟨w.heap.size, 0, none⟩ = some (.slice A0 ps.length c0)))).trans (cell_of D0.out 0), (HB4.out.cell (World.block_lt_of_cell? _ _ (cell_of D0.out 1 : w1.cell? ⟨w.heap.size, 1, none⟩ = some (.slice A1 ss.length c1)))).trans (cell_of D0.out 1), (HB4.out.cell (World.block_lt_of_cell? _ _ (cell_of D0.out 2 : w1.cell? ⟨w.heap.size, 2, none⟩ = some (.slice A2 ws.length c2)))).trans (cell_of D0.out 2)⟩ : w4.cell? ⟨w.heap.size, 0, none⟩ = some (.slice A0 ps.length c0) ∧ w4.cell? ⟨w.heap.size, 1, none⟩ = some (.slice A1 ss.length c1) ∧ w4.cell? ⟨w.heap.size, 2, none⟩ = some (.slice A2 ws.length c2))
  refine hK.out _ _ hHn (fun hHeld4 => ?_)
  clear hHn
  clear hK K
  refine norm_ (a' := ?_) ?_ ?_
  rotate_left
  · show Act.put _ (some 11) _ = _
    simp only [Act.put, List.setIfInBounds_toArray, List.set_cons_zero, List.set_cons_succ, i64_w, i32_w]
    rfl
  refine one_ (i := 7) (N := some 14) #[true, true, true, true, true, true, true, true, true, false, true, true, false, true, false, false, false] rfl rfl (one_of HT_.out (by kernel_rfl)) (by decide) (fun K hK => ?_)
  refine goes_ Tryz.func43 (by kernel_rfl) rfl #[.slice A1 ss.length c1] (by rfl) rfl rfl (by (try simp only [List.map_toArray, List.map_cons, List.map_nil]); first | done | rfl) ?_
  refine (clone_S ss A1 c1 w4 (Kd.C_below HC1.out (below_step HB1.out HB4.out)) hl1).mono ?_
  rintro e w5 ⟨v5, rfl, hv, hb⟩; have HV5 := Aside0.mk hv; have HB5' := Aside0.mk hb; have HB5 := Aside0.mk (below_step HB4.out hb); clear hv hb
  refine ⟨_, rfl, ?_⟩
  have hHn := (⟨(HB5.out.cell (World.block_lt_of_cell? _ _ (cell_of D0.out 0 : w1.cell? ⟨w.heap.size, 0, none⟩ = some (.slice A0 ps.length c0)))).trans (cell_of D0.out 0), (HB5.out.cell (World.block_lt_of_cell? _ _ (cell_of D0.out 1 : w1.cell? ⟨w.heap.size, 1, none⟩ = some (.slice A1 ss.length c1)))).trans (cell_of D0.out 1), (HB5.out.cell (World.block_lt_of_cell? _ _ (cell_of D0.out 2 : w1.cell? ⟨w.heap.size, 2, none⟩ = some (.slice A2 ws.length c2)))).trans (cell_of D0.out 2)⟩ : w5.cell? ⟨w.heap.size, 0, none⟩ = some (.slice A0 ps.length c0) ∧ w5.cell? ⟨w.heap.size, 1, none⟩ = some (.slice A1 ss.length c1) ∧ w5.cell? ⟨w.heap.size, 2, none⟩ = some (.slice A2 ws.length c2))
  refine hK.out _ _ hHn (fun hHeld5 => ?_)
  clear hHn
  clear hK K
  refine norm_ (a' := ?_) ?_ ?_
  rotate_left
  · show Act.put _ (some 14) _ = _
    simp only [Act.put, List.setIfInBounds_toArray, List.set_cons_zero, List.set_cons_succ, i64_w, i32_w]
    rfl
  refine one_ (i := 9) (N := some 16) #[true, true, true, true, true, true, true, true, true, true, true, true, false, true, false, false, false] rfl rfl (one_of HT_.out (by kernel_rfl)) (by decide) (fun K hK => ?_)
  refine goes_ Tryz.func42 (by kernel_rfl) rfl #[v5, .func (.func 44) #[] #[.pointer (some ⟨w.heap.size + 1, 0, none⟩)]] (by rfl) rfl rfl (by (try simp only [List.map_toArray, List.map_cons, List.map_nil]); first | done | rfl) ?_
  refine (delf_S (fun x => x.f0 == t) 44 #[.pointer (some ⟨w.heap.size + 1, 0, none⟩)] enter44 w4 w5 v5 ss HV5.out (by omega) HB5'.out (fun W x hW => in_span x t _ W ((hW.block _ (Nat.lt_of_lt_of_le (lt_of D1.out) HB4.out.size)).trans ((HB4.out.block _ (lt_of D1.out)).trans D1.out)))).mono ?_
  rintro e w6 ⟨v6, rfl, hv, hb⟩; have HV6 := Aside0.mk hv; have HB6' := Aside0.mk hb; have HB6 := Aside0.mk (below_step HB4.out hb); clear hv hb
  refine ⟨_, rfl, ?_⟩
  have hHn := (⟨(HB6.out.cell (World.block_lt_of_cell? _ _ (cell_of D0.out 0 : w1.cell? ⟨w.heap.size, 0, none⟩ = some (.slice A0 ps.length c0)))).trans (cell_of D0.out 0), (HB6.out.cell (World.block_lt_of_cell? _ _ (cell_of D0.out 1 : w1.cell? ⟨w.heap.size, 1, none⟩ = some (.slice A1 ss.length c1)))).trans (cell_of D0.out 1), (HB6.out.cell (World.block_lt_of_cell? _ _ (cell_of D0.out 2 : w1.cell? ⟨w.heap.size, 2, none⟩ = some (.slice A2 ws.length c2)))).trans (cell_of D0.out 2)⟩ : w6.cell? ⟨w.heap.size, 0, none⟩ = some (.slice A0 ps.length c0) ∧ w6.cell? ⟨w.heap.size, 1, none⟩ = some (.slice A1 ss.length c1) ∧ w6.cell? ⟨w.heap.size, 2, none⟩ = some (.slice A2 ws.length c2))
  refine hK.out _ _ hHn (fun hHeld6 => ?_)
  clear hHn
  clear hK K
  refine norm_ (a' := ?_) ?_ ?_
  rotate_left
  · show Act.put _ (some 16) _ = _
    simp only [Act.put, List.setIfInBounds_toArray, List.set_cons_zero, List.set_cons_succ, i64_w, i32_w]
    rfl
  refine one_ (i := 12) (N := some 19) #[true, true, true, true, true, true, true, true, true, true, true, true, true, true, false, false, false] rfl rfl (one_of HT_.out (by kernel_rfl)) (by decide) (fun K hK => ?_)
  refine goes_ Tryz.func41 (by kernel_rfl) rfl #[.slice A2 ws.length c2] (by rfl) rfl rfl (by (try simp only [List.map_toArray, List.map_cons, List.map_nil]); first | done | rfl) ?_
  refine (clone_P ws A2 c2 w6 (Kd.C_below HC2.out (below_step HB1.out HB6.out)) hl2).mono ?_
  rintro e w7 ⟨v7, rfl, hv, hb⟩; have HV7 := Aside0.mk hv; have HB7' := Aside0.mk hb; have HB7 := Aside0.mk (below_step HB6.out hb); clear hv hb
  refine ⟨_, rfl, ?_⟩
  have hHn := (⟨(HB7.out.cell (World.block_lt_of_cell? _ _ (cell_of D0.out 0 : w1.cell? ⟨w.heap.size, 0, none⟩ = some (.slice A0 ps.length c0)))).trans (cell_of D0.out 0), (HB7.out.cell (World.block_lt_of_cell? _ _ (cell_of D0.out 1 : w1.cell? ⟨w.heap.size, 1, none⟩ = some (.slice A1 ss.length c1)))).trans (cell_of D0.out 1), (HB7.out.cell (World.block_lt_of_cell? _ _ (cell_of D0.out 2 : w1.cell? ⟨w.heap.size, 2, none⟩ = some (.slice A2 ws.length c2)))).trans (cell_of D0.out 2)⟩ : w7.cell? ⟨w.heap.size, 0, none⟩ = some (.slice A0 ps.length c0) ∧ w7.cell? ⟨w.heap.size, 1, none⟩ = some (.slice A1 ss.length c1) ∧ w7.cell? ⟨w.heap.size, 2, none⟩ = some (.slice A2 ws.length c2))
  refine hK.out _ _ hHn (fun hHeld7 => ?_)
  clear hHn
  clear hK K
  refine norm_ (a' := ?_) ?_ ?_
  rotate_left
  · show Act.put _ (some 19) _ = _
    simp only [Act.put, List.setIfInBounds_toArray, List.set_cons_zero, List.set_cons_succ, i64_w, i32_w]
    rfl
  refine one_ (i := 14) (N := some 21) #[true, true, true, true, true, true, true, true, true, true, true, true, true, true, true, false, false] rfl rfl (one_of HT_.out (by kernel_rfl)) (by decide) (fun K hK => ?_)
  refine goes_ Tryz.func40 (by kernel_rfl) rfl #[v7, .func (.func 39) #[] #[.pointer (some ⟨w.heap.size + 1, 0, none⟩)]] (by rfl) rfl rfl (by (try simp only [List.map_toArray, List.map_cons, List.map_nil]); first | done | rfl) ?_
  refine (delf_P (fun x => x.f0 == t) 39 #[.pointer (some ⟨w.heap.size + 1, 0, none⟩)] enter39 w6 w7 v7 ws HV7.out (by omega) HB7'.out (fun W x hW => in_point x t _ W ((hW.block _ (Nat.lt_of_lt_of_le (lt_of D1.out) HB6.out.size)).trans ((HB6.out.block _ (lt_of D1.out)).trans D1.out)))).mono ?_
  rintro e w8 ⟨v8, rfl, hv, hb⟩; have HV8 := Aside0.mk hv; have HB8' := Aside0.mk hb; have HB8 := Aside0.mk (below_step HB6.out hb); clear hv hb
  refine ⟨_, rfl, ?_⟩
  have hHn := (⟨(HB8.out.cell (World.block_lt_of_cell? _ _ (cell_of D0.out 0 : w1.cell? ⟨w.heap.size, 0, none⟩ = some (.slice A0 ps.length c0)))).trans (cell_of D0.out 0), (HB8.out.cell (World.block_lt_of_cell? _ _ (cell_of D0.out 1 : w1.cell? ⟨w.heap.size, 1, none⟩ = some (.slice A1 ss.length c1)))).trans (cell_of D0.out 1), (HB8.out.cell (World.block_lt_of_cell? _ _ (cell_of D0.out 2 : w1.cell? ⟨w.heap.size, 2, none⟩ = some (.slice A2 ws.length c2)))).trans (cell_of D0.out 2)⟩ : w8.cell? ⟨w.heap.size, 0, none⟩ = some (.slice A0 ps.length c0) ∧ w8.cell? ⟨w.heap.size, 1, none⟩ = some (.slice A1 ss.length c1) ∧ w8.cell? ⟨w.heap.size, 2, none⟩ = some (.slice A2 ws.length c2))
  refine hK.out _ _ hHn (fun hHeld8 => ?_)
  clear hHn
  clear hK K
  refine norm_ (a' := ?_) ?_ ?_
  rotate_left
  · show Act.put _ (some 21) _ = _
    simp only [Act.put, List.setIfInBounds_toArray, List.set_cons_zero, List.set_cons_succ, i64_w, i32_w]
    rfl
  obtain ⟨A4, n4, c4_, rfl⟩ := HV4.out.form
  obtain ⟨A6, n6, c6_, rfl⟩ := HV6.out.form
  obtain ⟨A8, n8, c8_, rfl⟩ := HV8.out.form
  refine pure_ (i := 15) (N := some 22) (v := ?_) (a' := ?_) #[true, true, true, true, true, true, true, true, true, true, true, true, true, true, true, true, false] rfl rfl (any_of HT_.out (by kernel_rfl)) (fun _ _ _ h => h) (Or.inl ⟨by rfl, ?_⟩) ?_ ?_
  rotate_left
  · intro w'
    go_simp
    with_reducible rfl
  rotate_left
  · simp only [Act.put, List.setIfInBounds_toArray, List.set_cons_zero, List.set_cons_succ, i64_w, i32_w]
    rfl
  refine last_ (i := 16) (N := none) #[true, true, true, true, true, true, true, true, true, true, true, true, true, true, true, true, true] rfl rfl (one_of HT_.out (by kernel_rfl)) (by decide) (fun K hK => ?_)
  have D8 := Aside0.mk ((HB8.out.block _ (lt_of D2.out)).trans D2.out)
  have q0 : w8.cell? ⟨w.heap.size + 1 + 1, 0, none⟩ = some (.slice none 0 0) := cell_of D8.out 0
  have z0 : w8.frozen? ⟨w.heap.size + 1 + 1, 0, none⟩ = false := frozen_of D8.out 0
  have q1 : w8.cell? ⟨w.heap.size + 1 + 1, 1, none⟩ = some (.slice none 0 0) := cell_of D8.out 1
  have z1 : w8.frozen? ⟨w.heap.size + 1 + 1, 1, none⟩ = false := frozen_of D8.out 1
  have q2 : w8.cell? ⟨w.heap.size + 1 + 1, 2, none⟩ = some (.slice none 0 0) := cell_of D8.out 2
  have z2 : w8.frozen? ⟨w.heap.size + 1 + 1, 2, none⟩ = false := frozen_of D8.out 2
  refine skip_ (w1 := ?_) (by rfl) rfl ?_ ?_
  rotate_left
  · go_simp
    rfl
  refine hK.out _ _ ?_
  refine done_ (done_of HT_.out (by kernel_rfl)) ?_
  go_wp2
  refine bodyPost_ret (results_c1 rfl _ _ (w.heap.size + 1 + 1) 25 #[.slice A4 n4 c4_, .slice A6 n6 c6_, .slice A8 n8 c8_] (0, 0) _ rfl (setCell_heap (setCell_heap (setCell_heap D8.out _) _) _) Tryz.underlying25 rfl (by kernel_rfl)) rfl ?_
  have hz1 := lt_of D2.out
  have hk : ∀ (u v x : Value), ((w8.setCell ⟨w.heap.size + 1 + 1, 0, none⟩ u).setCell ⟨w.heap.size + 1 + 1, 1, none⟩ v).setCell ⟨w.heap.size + 1 + 1, 2, none⟩ x = w8.setCells (w.heap.size + 1 + 1) 0 [u, v, x] := fun u v x => rfl
  rw [hk]
  have hs : ∀ vs : List Value, Below w1.heap.size w1 w8 → ∀ k, k ≠ w.heap.size + 1 + 1 → (w8.setCells (w.heap.size + 1 + 1) 0 vs).heap[k]? = w8.heap[k]? := fun vs _ k hk => setCells_far vs 0 k hk
  have hzz := fun vs => (setCells_same (w.heap.size + 1 + 1) vs 0 w8).2.2.2
  have z2 := HB2.out.size; have z4 := HB4.out.size; have z6 := HB6.out.size
  refine ⟨_, _, _, rfl, ?_, ?_, ?_, ?_⟩
  · exact ((HV4.out.below HB6'.out).below HB8'.out).far w.heap.size (by omega) (fun k hk => hs _ HB8.out k (by omega)) (Nat.le_of_eq (hzz _).symm)
  · exact (HV6.out.below HB8'.out).far w.heap.size (by omega) (fun k hk => hs _ HB8.out k (by omega)) (Nat.le_of_eq (hzz _).symm)
  · exact HV8.out.far w.heap.size (by omega) (fun k hk => hs _ HB8.out k (by omega)) (Nat.le_of_eq (hzz _).symm)
  · exact below_sets (by show w.heap.size ≤ w.heap.size + 1 + 1; omega) _ _ (below_step HB1.out HB8.out)
theorem RowP_one {w : World} {g : Nat} {p : S37} (h : w.heap[g]? = some (pO p)) : RowP w g [p] := by
  intro i x hx j u hu
  cases i with
  | zero =>
    obtain rfl : p = x := by simpa using hx
    have hu' : (#[Value.int .i64 p.f0, .int .i64 p.f1, .string p.f2] : Array Value)[j]? = some u := by rw [← hu, ← Array.getElem?_toList]; rfl
    exact ⟨by rw [Nat.zero_mul, Nat.zero_add]; exact (cell_of h j).trans hu', frozen_of h _⟩
  | succ n => simp at hx
theorem C_one {w : World} {g : Nat} {p : S37} (h : w.heap[g]? = some (pO p)) : Kd.C k37 w (some ⟨g, 0, none⟩) 1 [p] := (RowP_one h).C (by simp)
def pA : S37 := ⟨0, -1, ⟨#[97]⟩⟩
theorem wfA : wfP pA := ⟨by decide, by decide, by decide⟩
theorem readsA : readsS [pA] [] pA = true := by unfold readsS; simp [(eqP_iff pA pA).2 rfl]
theorem leastA : leastS ([pA].filter (readsS [pA] [])) = some pA := by
  rw [List.filter_cons_of_pos (by exact readsA)]
  rfl
set_option maxHeartbeats 4000000 in
set_option maxRecDepth 100000 in
theorem awake_any (w : World) : Calls Tryz.prog 13 #[] w fun e w' => e = .returned (.bool true) ∧ Below w.heap.size w w' := by
  have hS : (⟨#[97]⟩ : ByteArray) = pA.f2 := rfl
  generalize hW : (((w.alloc (.cells #[.int .i64 0, .int .i64 (-1), .string ⟨#[97]⟩] 37)).alloc (.cells #[.slice (some ⟨w.heap.size, 0, none⟩) 1 1, .slice none 0 0, .slice none 0 0] 25)).alloc (.cells #[.int .i64 0, .int .i64 (-1), .string ⟨#[97]⟩] 37)).alloc (.cells #[.slice none 0 0, .slice none 0 0, .slice (some ⟨w.heap.size + 1 + 1, 0, none⟩) 1 1] 25) = W
  have hB : Below w.heap.size w W := by rw [← hW]; exact below_alloc (below_alloc (below_alloc (below_alloc (Below.refl _ _) _) _) _) _
  have b0 : W.heap[w.heap.size]? = some (pO pA) := by rw [← hW]; exact heap_old (heap_old (heap_old (heap_new _ _)))
  have b1 : W.heap[w.heap.size + 1]? = some (.cells #[.slice (some ⟨w.heap.size, 0, none⟩) 1 1, .slice none 0 0, .slice none 0 0] 25) := by rw [← hW]; have := heap_new (w.alloc (pO pA)) (.cells #[.slice (some ⟨w.heap.size, 0, none⟩) 1 1, .slice none 0 0, .slice none 0 0] 25); rw [size_new] at this; exact heap_old (heap_old this)
  have b2 : W.heap[w.heap.size + 1 + 1]? = some (pO pA) := by rw [← hW]; have := heap_new ((w.alloc (pO pA)).alloc (.cells #[.slice (some ⟨w.heap.size, 0, none⟩) 1 1, .slice none 0 0, .slice none 0 0] 25)) (pO pA); rw [size_new, size_new] at this; exact heap_old this
  have hcall : Calls Tryz.prog 17 #[.agg #[.slice (some ⟨w.heap.size, 0, none⟩) 1 1, .slice none 0 0, .slice none 0 0], .agg #[.slice none 0 0, .slice none 0 0, .slice (some ⟨w.heap.size + 1 + 1, 0, none⟩) 1 1]] W fun e w' => e = .returned (.tuple #[.agg #[.int .i64 0, .int .i64 (-1), .string ⟨#[97]⟩], .bool true]) ∧ Below W.heap.size W w' :=
    (clash_any [pA] [] [pA] (some ⟨w.heap.size, 0, none⟩) none none none none (some ⟨w.heap.size + 1 + 1, 0, none⟩) 0 0 0 1 0 0 0 0 1 W (C_one b0) (by decide) (Kd.R_reads' (Kd.R_nil k46 46 W 0 (fun _ => True))).2.2 (by decide) (C_one b2) (by decide) (by decide) (fun x hx => by obtain rfl := List.mem_singleton.1 hx; exact wfA) (fun x hx => by obtain rfl := List.mem_singleton.1 hx; exact wfA)).mono fun e w' h => ⟨by rw [h.1, leastA]; rfl, h.2⟩
  have hcall2 : ∀ V, Below W.heap.size W V → Calls Tryz.prog 16 #[.agg #[.slice (some ⟨w.heap.size, 0, none⟩) 1 1, .slice none 0 0, .slice none 0 0], .agg #[.int .i64 0, .int .i64 (-1), .string ⟨#[97]⟩]] V fun e w' => e = .returned (.bool true) ∧ Below V.heap.size V w' := fun V hV =>
    (reads_any [pA] [] (some ⟨w.heap.size, 0, none⟩) none none 0 1 0 0 pA V (C_one ((hV.block _ (lt_of b0)).trans b0)) (by decide) (Kd.R_reads' (Kd.R_nil k46 46 V 0 (fun _ => True))).2.2 (by decide) (by decide)).mono fun e w' h => ⟨by rw [h.1, readsA], h.2⟩
  have HC := Aside0.mk hcall
  have HC2 := Aside0.mk hcall2
  have HB := Aside0.mk hB
  have HW := Aside0.mk hW
  have D1 := Aside0.mk b1
  clear hcall hcall2 hB hW b0 b1 b2 hS
  go_enter Tryz.func13, Tryz.ntmps13
  go_wp2_with fail
  rw [HW.out]
  clear HW
  go_wp2_with (first | (go_at_call 17; refine HC.out.mono ?_; rintro e w5 ⟨rfl, hb⟩; have HB5 := Aside0.mk hb; have m1 : w5.cell? ⟨w.heap.size + 1, 0, none⟩ = some (.slice (some ⟨w.heap.size, 0, none⟩) 1 1) := (hb.cell (World.block_lt_of_cell? _ _ (cell_of D1.out 0))).trans (cell_of D1.out 0); have m2 : w5.cell? ⟨w.heap.size + 1, 1, none⟩ = some (.slice none 0 0) := (hb.cell (World.block_lt_of_cell? _ _ (cell_of D1.out 1))).trans (cell_of D1.out 1); have m3 : w5.cell? ⟨w.heap.size + 1, 2, none⟩ = some (.slice none 0 0) := (hb.cell (World.block_lt_of_cell? _ _ (cell_of D1.out 2))).trans (cell_of D1.out 2); have hlt : w.heap.size + 1 < w5.heap.size := Nat.lt_of_lt_of_le (lt_of D1.out) hb.size; clear hb) | (go_at_call 16; refine (HC2.out _ (below_alloc HB5.out _)).mono ?_; rintro e w6 ⟨rfl, hb6⟩))
  go_ret
  exact ⟨rfl, below_step HB.out (below_step (below_alloc HB5.out _) hb6)⟩
def bothSS (ws qs : List S37) : Option S37 := leastS (ws.filter (fun p => qs.any (eqP p) && p.f1 == -1))
/-- A foot: three lists. -/
structure Ft where
  ps : List S37
  ss : List S46
  ws : List S37
def Ft.small (f : Ft) : Prop := f.ps.length * 32 ≤ 140737488351232 ∧ f.ss.length * 56 ≤ 140737488351232 ∧ f.ws.length * 32 ≤ 140737488351232
def Ft.wf (f : Ft) : Prop := (∀ x ∈ f.ps, wfP x) ∧ (∀ x ∈ f.ws, wfP x)
theorem Ft.small.n (f : Ft) (h : f.small) : f.ps.length < 4398046511104 ∧ f.ss.length < 2513169434916 ∧ f.ws.length < 4398046511104 := by
  obtain ⟨h0, h1, h2⟩ := h
  exact ⟨by omega, by omega, by omega⟩
/-- A foot that reads so, field by field. -/
structure FtR (w : World) (A0 A1 A2 : Option Addr) (c0 c1 c2 : Nat) (f : Ft) : Prop where
  h0 : Kd.C k37 w A0 f.ps.length f.ps
  l0 : f.ps.length ≤ c0
  h1 : Kd.C k46 w A1 f.ss.length f.ss
  l1 : f.ss.length ≤ c1
  h2 : Kd.C k37 w A2 f.ws.length f.ws
  l2 : f.ws.length ≤ c2
def fv (A0 A1 A2 : Option Addr) (c0 c1 c2 : Nat) (f : Ft) : Value := .agg #[.slice A0 f.ps.length c0, .slice A1 f.ss.length c1, .slice A2 f.ws.length c2]
def FtV (w : World) (v : Value) (f : Ft) : Prop := ∃ A0 A1 A2 c0 c1 c2, v = fv A0 A1 A2 c0 c1 c2 f ∧ FtR w A0 A1 A2 c0 c1 c2 f
theorem FtR.below {w w' : World} {A0 A1 A2 : Option Addr} {c0 c1 c2 : Nat} {f : Ft} (h : FtR w A0 A1 A2 c0 c1 c2 f) (hb : Below w.heap.size w w') : FtR w' A0 A1 A2 c0 c1 c2 f :=
  ⟨Kd.C_below h.h0 hb, h.l0, Kd.C_below h.h1 hb, h.l1, Kd.C_below h.h2 hb, h.l2⟩
theorem FtV.below {w w' : World} {v : Value} {f : Ft} (h : FtV w v f) (hb : Below w.heap.size w w') : FtV w' v f := by
  obtain ⟨A0, A1, A2, c0, c1, c2, e, h⟩ := h
  exact ⟨A0, A1, A2, c0, c1, c2, e, h.below hb⟩
theorem copyV {w : World} {v : Value} {f : Ft} (h : FtV w v f) (hs : f.small) : Calls Tryz.prog 8 #[v] w fun e w' => ∃ v', e = .returned v' ∧ FtV w' v' f ∧ Below w.heap.size w w' := by
  obtain ⟨A0, A1, A2, c0, c1, c2, rfl, h⟩ := h
  have hn := hs.n
  obtain ⟨k, hk⟩ := (copy_ev f.ps f.ss f.ws hn.1 hn.2.1 hn.2.2).ex
  refine (vellumref17_Copy.calls k A0 c0 f.ps A1 c1 f.ss A2 c2 f.ws _ _ _ w h.h0 h.l0 h.h1 h.l1 h.h2 h.l2 hk).mono ?_
  rintro e w' ⟨v0, v1, v2, rfl, r0, r1, r2, hb⟩
  obtain ⟨B0, d0, rfl⟩ := Kd.R_slice r0
  obtain ⟨B1, d1, rfl⟩ := Kd.R_slice r1
  obtain ⟨B2, d2, rfl⟩ := Kd.R_slice r2
  exact ⟨_, rfl, ⟨B0, B1, B2, d0, d1, d2, rfl, (Kd.R_reads' r0).2.2, (Kd.R_reads' r0).2.1, (Kd.R_reads' r1).2.2, (Kd.R_reads' r1).2.1, (Kd.R_reads' r2).2.2, (Kd.R_reads' r2).2.1⟩, hb⟩
def clashSS (f g : Ft) : Option S37 := leastS (g.ws.filter (readsS f.ps f.ss))
def tellV (o : Option S37) : Value := .tuple #[pv (o.getD zP), .bool o.isSome]
theorem clashV {w : World} {v u : Value} {f g : Ft} (h : FtV w v f) (h' : FtV w u g) (hs : f.small) (hf : f.wf) (hg : g.wf) : Calls Tryz.prog 17 #[v, u] w fun e w' => e = .returned (tellV (clashSS f g)) ∧ Below w.heap.size w w' := by
  obtain ⟨A0, A1, A2, c0, c1, c2, rfl, h⟩ := h
  obtain ⟨B0, B1, B2, d0, d1, d2, rfl, h'⟩ := h'
  exact clash_any f.ps f.ss g.ws A0 A1 A2 B0 B1 B2 _ _ _ c0 c1 c2 d0 d1 d2 w h.h0 h.l0 h.h1 h.l1 h'.h2 h'.l2 hs.n.1 hf.1 hg.2
theorem bothV {w : World} {v u : Value} {f g : Ft} (h : FtV w v f) (h' : FtV w u g) (hs : g.small) (hf : f.wf) (hg : g.wf) : Calls Tryz.prog 19 #[v, u] w fun e w' => e = .returned (tellV (bothSS f.ws g.ws)) ∧ Below w.heap.size w w' := by
  obtain ⟨A0, A1, A2, c0, c1, c2, rfl, h⟩ := h
  obtain ⟨B0, B1, B2, d0, d1, d2, rfl, h'⟩ := h'
  exact both_any f.ws g.ws A0 A1 A2 B0 B1 B2 _ _ _ _ c0 c1 c2 d0 d1 d2 w h.h2 h.l2 h'.h2 h'.l2 hs.n.2.2 hf.2 hg.2
def Ft.without (f : Ft) (t : Int) : Ft := ⟨f.ps.filter (fun x => !(x.f0 == t)), f.ss.filter (fun x => !(x.f0 == t)), f.ws.filter (fun x => !(x.f0 == t))⟩
theorem Ft.small.without {f : Ft} (h : f.small) (t : Int) : (f.without t).small := by
  obtain ⟨h0, h1, h2⟩ := h
  have e0 := List.length_filter_le (fun x : S37 => !(x.f0 == t)) f.ps
  have e1 := List.length_filter_le (fun x : S46 => !(x.f0 == t)) f.ss
  have e2 := List.length_filter_le (fun x : S37 => !(x.f0 == t)) f.ws
  refine ⟨?_, ?_, ?_⟩ <;> unfold Ft.without <;> dsimp only <;> omega
theorem sameV {w : World} {v u : Value} {f : Ft} (h : FtV w v f) (h' : FtV w u f) (hs : f.small) : Calls Tryz.prog 10 #[v, u] w fun e w' => e = .returned (.bool true) ∧ Below w.heap.size w w' := by
  obtain ⟨A0, A1, A2, c0, c1, c2, rfl, h⟩ := h
  obtain ⟨B0, B1, B2, d0, d1, d2, rfl, h'⟩ := h'
  have hn := hs.n
  obtain ⟨k, hk⟩ := (same_ev f.ps f.ss f.ws hn.1 hn.2.1 hn.2.2).ex
  exact vellumref17_Same.calls k A0 c0 f.ps A1 c1 f.ss A2 c2 f.ws B0 d0 f.ps B1 d1 f.ss B2 d2 f.ws true w h.h0 h.l0 h.h1 h.l1 h.h2 h.l2 h'.h0 h'.l0 h'.h1 h'.l1 h'.h2 h'.l2 hk
theorem C_ints {W : World} {g : Nat} {l : List Int} (h : W.heap[g]? = some (.cells (l.map (Value.int .i64)).toArray 3 (0, 0))) (hl : l.length ≤ 9223372036854775807 := by simp) : Kd.C (Kd.int .i64) W (some ⟨g, 0, none⟩) l.length l := by
  refine ⟨rfl, hl, fun _ => ⟨_, rfl, fun j p hp => ⟨[.int .i64 p], rfl, rfl, fun i u hu => ?_⟩⟩⟩
  have hi : i = 0 := by
    have := (List.getElem?_eq_some_iff.1 hu).1
    simpa using this
  subst hi
  obtain rfl : Value.int .i64 p = u := by simpa using hu
  have e : (⟨g, 0, none⟩ : Addr).add (j * (Kd.int .i64).sz + 0) = ⟨g, j, none⟩ := by
    show (⟨g, 0, none⟩ : Addr).add (j * 1 + 0) = _
    unfold Addr.add
    split <;> simp_all
  rw [e]
  refine (cell_of h j).trans ?_
  simp [hp]
/-- A place of a table. -/
structure SPl where
  f0 : Int
  f1 : Int
def cmpL (a b : SPl) : Int := if a.f0 = b.f0 then (if a.f1 = b.f1 then 0 else if a.f1 < b.f1 then -1 else 1) else if a.f0 < b.f0 then -1 else 1
theorem or2_ev (a b : Int) : Ev (fun k => cmp_Or_int.f k [a, b]) (if a = 0 then b else a) := by
  refine Ev.from_ 3 (fun k => ?_)
  have e1 : wrap64 (0 + 1) = 1 := wrap64_id (by decide) (by decide)
  have e2 : wrap64 (1 + 1) = 2 := wrap64_id (by decide) (by decide)
  have r0 : rd [a, b] 0 = a := rfl
  have r1 : rd [a, b] 1 = b := rfl
  unfold cmp_Or_int.f
  have hl : (([a, b] : List Int).length : Int) = 2 := rfl
  rw [hl, cmp_Or_int.l0, r0, e1, cmp_Or_int.l0, r1, e2, cmp_Or_int.l0, hl]
  by_cases ha : a = 0
  · by_cases hb : b = 0 <;> simp [ha, hb]
  · simp [ha]
theorem before_gr_spec (a b : S37) : cmpP a b = if (if a.f0 < b.f0 then (-1 : Int) else if b.f0 < a.f0 then 1 else 0) = 0 then (if (if a.f1 < b.f1 then (-1 : Int) else if b.f1 < a.f1 then 1 else 0) = 0 then Lib.compareBytes a.f2.data.toList b.f2.data.toList else (if a.f1 < b.f1 then (-1 : Int) else if b.f1 < a.f1 then 1 else 0)) else (if a.f0 < b.f0 then (-1 : Int) else if b.f0 < a.f0 then 1 else 0) := by
  rw [cmpB_eq]
  unfold cmpP bs
  repeat' split
  all_goals first | rfl | omega
theorem place_gr_spec (a b : SPl) : cmpL a b = if (if a.f0 < b.f0 then (-1 : Int) else if b.f0 < a.f0 then 1 else 0) = 0 then (if a.f1 < b.f1 then (-1 : Int) else if b.f1 < a.f1 then 1 else 0) else (if a.f0 < b.f0 then (-1 : Int) else if b.f0 < a.f0 then 1 else 0) := by
  unfold cmpL
  repeat' split
  all_goals first | rfl | omega
def T64_1 : Bool × List (List Nat × List Nat) := (true, [([], []), ([0], [0]), ([], []), ([2], [2]), ([1, 3], [1, 3]), ([], []), ([5], [5]), ([], []), ([7], [7]), ([6, 8, 4], [6, 8]), ([], []), ([10], [10]), ([], []), ([12], [12]), ([11, 13, 9], [11, 13]), ([4, 9, 14], [4, 9, 14]), ([15, 14], [15]), ([16, 16, 0, 1, 2, 3, 4, 5, 6, 7, 8, 9, 10, 11, 12, 13, 14, 15, 16], [16])])
theorem tab64_1 : rtab .any (opsOf Tryz.f64 1) = T64_1 := by kernel_rfl
def T48_1 : Bool × List (List Nat × List Nat) := (true, [([], []), ([0], [0]), ([], []), ([2], [2]), ([1, 3], [1, 3]), ([], []), ([5], [5]), ([], []), ([7], [7]), ([6, 8, 4], [6, 8]), ([4, 9], [4, 9]), ([10, 9], [10]), ([11, 11, 0, 1, 2, 3, 4, 5, 6, 7, 8, 9, 10, 11], [11])])
theorem tab48_1 : rtab .any (opsOf Tryz.f48 1) = T48_1 := by kernel_rfl
set_option maxHeartbeats 4000000 in
set_option maxRecDepth 100000 in
theorem before_gr (a b : S37) (w : World) : Calls Tryz.prog 64 #[.agg #[.int .i64 a.f0, .int .i64 a.f1, .string a.f2], .agg #[.int .i64 b.f0, .int .i64 b.f1, .string b.f2]] w fun e w' => e = .returned (.int .i64 (cmpP a b)) ∧ Gr w w' := by
  obtain ⟨v0, hv0⟩ : ∃ v : Int, v = (if a.f0 < b.f0 then -1 else if b.f0 < a.f0 then 1 else 0) := ⟨_, rfl⟩
  obtain ⟨v1, hv1⟩ : ∃ v : Int, v = (if a.f1 < b.f1 then -1 else if b.f1 < a.f1 then 1 else 0) := ⟨_, rfl⟩
  obtain ⟨v2, hv2⟩ : ∃ v : Int, v = (Lib.compareBytes a.f2.data.toList b.f2.data.toList) := ⟨_, rfl⟩
  obtain ⟨k, hk⟩ : ∃ k, cmp_Or_int.f k [v0, v1, v2] = some (cmpP a b) := by rw [before_gr_spec, hv0, hv1, hv2]; exact (or3_ev _ _ _).ex
  have HV0 := Aside0.mk hv0
  have HV1 := Aside0.mk hv1
  have HV2 := Aside0.mk hv2
  clear hv0 hv1 hv2
  generalize hW : (w.alloc (.cells #[.int .i64 a.f0, .int .i64 a.f1, .string a.f2] 37)).alloc (.cells #[.int .i64 b.f0, .int .i64 b.f1, .string b.f2] 37) = w1
  have hG : Gr w w1 := by rw [← hW]; exact ((Gr.refl w).alloc _).alloc _
  have b0 : w1.heap[w.heap.size]? = some (.cells #[.int .i64 a.f0, .int .i64 a.f1, .string a.f2] 37) := by rw [← hW]; exact heap_old (heap_new _ _)
  have b1 : w1.heap[w.heap.size + 1]? = some (.cells #[.int .i64 b.f0, .int .i64 b.f1, .string b.f2] 37) := by rw [← hW]; have := heap_new (w.alloc (.cells #[.int .i64 a.f0, .int .i64 a.f1, .string a.f2] 37)) (.cells #[.int .i64 b.f0, .int .i64 b.f1, .string b.f2] 37); rw [size_new] at this; exact this
  have HW := Aside0.mk hW
  have D0 := Aside0.mk b0
  have D1 := Aside0.mk b1
  have HG := Aside0.mk hG
  have HK := Aside0.mk hk
  clear hW b0 b1 hG hk
  go_enter Tryz.func64, Tryz.ntmps64
  go_wp2
  rw [HW.out]
  clear HW
  refine start_ (n := 18) (S := fun w' => w'.cell? ⟨w.heap.size, 0, none⟩ = some (.int .i64 a.f0) ∧ w'.cell? ⟨w.heap.size, 1, none⟩ = some (.int .i64 a.f1) ∧ w'.cell? ⟨w.heap.size, 2, none⟩ = some (.string a.f2) ∧ w'.cell? ⟨w.heap.size + 1, 0, none⟩ = some (.int .i64 b.f0) ∧ w'.cell? ⟨w.heap.size + 1, 1, none⟩ = some (.int .i64 b.f1) ∧ w'.cell? ⟨w.heap.size + 1, 2, none⟩ = some (.string b.f2)) (ds := []) #[false, false, false, false, false, false, false, false, false, false, false, false, false, false, false, false, false, false] (by kernel_rfl) rfl rfl ⟨cell_of D0.out 0, cell_of D0.out 1, cell_of D0.out 2, cell_of D1.out 0, cell_of D1.out 1, cell_of D1.out 2⟩ (fun hHeld => ?_); refine with_tab tab64_1 (fun HT_ => ?_)
  have hbD := below_drew1 (Below.refl w1.heap.size w1)
  have hG2 := HG.out.drew
  generalize w1.drew = w2 at hbD hHeld hG2 ⊢
  have D0_1 := Aside0.mk ((hbD.block _ (lt_of D0.out)).trans D0.out)
  have D1_1 := Aside0.mk ((hbD.block _ (lt_of D1.out)).trans D1.out)
  have HG_1 := Aside0.mk (hG2)
  clear hbD hG2
  refine pure_ (i := 0) (N := some 5) (v := ?_) (a' := ?_) #[true, false, false, false, false, false, false, false, false, false, false, false, false, false, false, false, false, false] rfl rfl (any_of HT_.out (by kernel_rfl)) (fun _ _ _ h => h) (Or.inl ⟨by rfl, ?_⟩) ?_ ?_
  rotate_left
  · intro w'
    go_simp
    with_reducible rfl
  rotate_left
  · simp only [Act.put, List.setIfInBounds_toArray, List.set_cons_zero, List.set_cons_succ, i64_w, i32_w]
    rfl
  refine pure_ (i := 2) (N := some 7) (v := ?_) (a' := ?_) #[true, false, true, false, false, false, false, false, false, false, false, false, false, false, false, false, false, false] rfl rfl (any_of HT_.out (by kernel_rfl)) (fun _ _ _ h => h) (Or.inl ⟨by rfl, ?_⟩) ?_ ?_
  rotate_left
  · intro w'
    go_simp
    with_reducible rfl
  rotate_left
  · simp only [Act.put, List.setIfInBounds_toArray, List.set_cons_zero, List.set_cons_succ, i64_w, i32_w]
    rfl
  refine pure_ (i := 5) (N := some 10) (v := ?_) (a' := ?_) #[true, false, true, false, false, true, false, false, false, false, false, false, false, false, false, false, false, false] rfl rfl (any_of HT_.out (by kernel_rfl)) (fun _ _ _ h => h) (Or.inl ⟨by rfl, ?_⟩) ?_ ?_
  rotate_left
  · intro w'
    go_simp
    with_reducible rfl
  rotate_left
  · simp only [Act.put, List.setIfInBounds_toArray, List.set_cons_zero, List.set_cons_succ, i64_w, i32_w]
    rfl
  refine pure_ (i := 7) (N := some 12) (v := ?_) (a' := ?_) #[true, false, true, false, false, true, false, true, false, false, false, false, false, false, false, false, false, false] rfl rfl (any_of HT_.out (by kernel_rfl)) (fun _ _ _ h => h) (Or.inl ⟨by rfl, ?_⟩) ?_ ?_
  rotate_left
  · intro w'
    go_simp
    with_reducible rfl
  rotate_left
  · simp only [Act.put, List.setIfInBounds_toArray, List.set_cons_zero, List.set_cons_succ, i64_w, i32_w]
    rfl
  refine pure_ (i := 10) (N := some 15) (v := ?_) (a' := ?_) #[true, false, true, false, false, true, false, true, false, false, true, false, false, false, false, false, false, false] rfl rfl (any_of HT_.out (by kernel_rfl)) (fun _ _ _ h => h) (Or.inl ⟨by rfl, ?_⟩) ?_ ?_
  rotate_left
  · intro w'
    go_simp
    with_reducible rfl
  rotate_left
  · simp only [Act.put, List.setIfInBounds_toArray, List.set_cons_zero, List.set_cons_succ, i64_w, i32_w]
    rfl
  refine pure_ (i := 12) (N := some 17) (v := ?_) (a' := ?_) #[true, false, true, false, false, true, false, true, false, false, true, false, true, false, false, false, false, false] rfl rfl (any_of HT_.out (by kernel_rfl)) (fun _ _ _ h => h) (Or.inl ⟨by rfl, ?_⟩) ?_ ?_
  rotate_left
  · intro w'
    go_simp
    with_reducible rfl
  rotate_left
  · simp only [Act.put, List.setIfInBounds_toArray, List.set_cons_zero, List.set_cons_succ, i64_w, i32_w]
    rfl
  refine take_ (i := 1) (N := some 6) (v := ?_) (a' := ?_) #[true, true, true, false, false, true, false, true, false, false, true, false, true, false, false, false, false, false] rfl rfl (take_of HT_.out (by kernel_rfl)) (fun _ _ _ h => h) (Or.inl ⟨by rfl, ?_⟩) hHeld ?_ ?_
  rotate_left
  · rintro w' ⟨s0, s1, s2, s3, s4, s5⟩
    go_simp
    with_reducible rfl
  rotate_left
  · simp only [Act.put, List.setIfInBounds_toArray, List.set_cons_zero, List.set_cons_succ, i64_w, i32_w]
    rfl
  refine take_ (i := 3) (N := some 8) (v := ?_) (a' := ?_) #[true, true, true, true, false, true, false, true, false, false, true, false, true, false, false, false, false, false] rfl rfl (take_of HT_.out (by kernel_rfl)) (fun _ _ _ h => h) (Or.inl ⟨by rfl, ?_⟩) hHeld ?_ ?_
  rotate_left
  · rintro w' ⟨s0, s1, s2, s3, s4, s5⟩
    go_simp
    with_reducible rfl
  rotate_left
  · simp only [Act.put, List.setIfInBounds_toArray, List.set_cons_zero, List.set_cons_succ, i64_w, i32_w]
    rfl
  refine take_ (i := 6) (N := some 11) (v := ?_) (a' := ?_) #[true, true, true, true, false, true, true, true, false, false, true, false, true, false, false, false, false, false] rfl rfl (take_of HT_.out (by kernel_rfl)) (fun _ _ _ h => h) (Or.inl ⟨by rfl, ?_⟩) hHeld ?_ ?_
  rotate_left
  · rintro w' ⟨s0, s1, s2, s3, s4, s5⟩
    go_simp
    with_reducible rfl
  rotate_left
  · simp only [Act.put, List.setIfInBounds_toArray, List.set_cons_zero, List.set_cons_succ, i64_w, i32_w]
    rfl
  refine take_ (i := 8) (N := some 13) (v := ?_) (a' := ?_) #[true, true, true, true, false, true, true, true, true, false, true, false, true, false, false, false, false, false] rfl rfl (take_of HT_.out (by kernel_rfl)) (fun _ _ _ h => h) (Or.inl ⟨by rfl, ?_⟩) hHeld ?_ ?_
  rotate_left
  · rintro w' ⟨s0, s1, s2, s3, s4, s5⟩
    go_simp
    with_reducible rfl
  rotate_left
  · simp only [Act.put, List.setIfInBounds_toArray, List.set_cons_zero, List.set_cons_succ, i64_w, i32_w]
    rfl
  refine take_ (i := 11) (N := some 16) (v := ?_) (a' := ?_) #[true, true, true, true, false, true, true, true, true, false, true, true, true, false, false, false, false, false] rfl rfl (take_of HT_.out (by kernel_rfl)) (fun _ _ _ h => h) (Or.inl ⟨by rfl, ?_⟩) hHeld ?_ ?_
  rotate_left
  · rintro w' ⟨s0, s1, s2, s3, s4, s5⟩
    go_simp
    with_reducible rfl
  rotate_left
  · simp only [Act.put, List.setIfInBounds_toArray, List.set_cons_zero, List.set_cons_succ, i64_w, i32_w]
    rfl
  refine take_ (i := 13) (N := some 18) (v := ?_) (a' := ?_) #[true, true, true, true, false, true, true, true, true, false, true, true, true, true, false, false, false, false] rfl rfl (take_of HT_.out (by kernel_rfl)) (fun _ _ _ h => h) (Or.inl ⟨by rfl, ?_⟩) hHeld ?_ ?_
  rotate_left
  · rintro w' ⟨s0, s1, s2, s3, s4, s5⟩
    go_simp
    with_reducible rfl
  rotate_left
  · simp only [Act.put, List.setIfInBounds_toArray, List.set_cons_zero, List.set_cons_succ, i64_w, i32_w]
    rfl
  refine one_ (i := 4) (N := some 9) #[true, true, true, true, true, true, true, true, true, false, true, true, true, true, false, false, false, false] rfl rfl (one_of HT_.out (by kernel_rfl)) (by decide) (fun K hK => ?_)
  refine goes_ Tryz.func50 (by kernel_rfl) rfl #[.int .i64 a.f0, .int .i64 b.f0] (by rfl) rfl rfl (by (try simp only [List.map_toArray, List.map_cons, List.map_nil]); first | done | rfl) ?_
  refine (cmp_Compare_int.calls _ _ v0 _ (by rw [HV0.out]; exact cmpI_eq a.f0 b.f0)).mono ?_
  rintro e wc4 ⟨rfl, hd⟩
  refine ⟨_, rfl, ?_⟩
  have D0_2 := Aside0.mk ((hd.below.block _ (lt_of D0_1.out)).trans D0_1.out)
  have D1_2 := Aside0.mk ((hd.below.block _ (lt_of D1_1.out)).trans D1_1.out)
  have HG_2 := Aside0.mk (Gr.drawn HG_1.out hd)
  clear hd hHeld
  refine hK.out _ _ ⟨cell_of D0_2.out 0, cell_of D0_2.out 1, cell_of D0_2.out 2, cell_of D1_2.out 0, cell_of D1_2.out 1, cell_of D1_2.out 2⟩ (fun hHeld => ?_)
  clear hK K
  refine norm_ (a' := ?_) ?_ ?_
  rotate_left
  · show Act.put _ (some 9) _ = _
    simp only [Act.put, List.setIfInBounds_toArray, List.set_cons_zero, List.set_cons_succ, i64_w, i32_w]
    rfl
  refine one_ (i := 9) (N := some 14) #[true, true, true, true, true, true, true, true, true, true, true, true, true, true, false, false, false, false] rfl rfl (one_of HT_.out (by kernel_rfl)) (by decide) (fun K hK => ?_)
  refine goes_ Tryz.func50 (by kernel_rfl) rfl #[.int .i64 a.f1, .int .i64 b.f1] (by rfl) rfl rfl (by (try simp only [List.map_toArray, List.map_cons, List.map_nil]); first | done | rfl) ?_
  refine (cmp_Compare_int.calls _ _ v1 _ (by rw [HV1.out]; exact cmpI_eq a.f1 b.f1)).mono ?_
  rintro e wc9 ⟨rfl, hd⟩
  refine ⟨_, rfl, ?_⟩
  have D0_3 := Aside0.mk ((hd.below.block _ (lt_of D0_2.out)).trans D0_2.out)
  have D1_3 := Aside0.mk ((hd.below.block _ (lt_of D1_2.out)).trans D1_2.out)
  have HG_3 := Aside0.mk (Gr.drawn HG_2.out hd)
  clear hd hHeld
  refine hK.out _ _ ⟨cell_of D0_3.out 0, cell_of D0_3.out 1, cell_of D0_3.out 2, cell_of D1_3.out 0, cell_of D1_3.out 1, cell_of D1_3.out 2⟩ (fun hHeld => ?_)
  clear hK K
  refine norm_ (a' := ?_) ?_ ?_
  rotate_left
  · show Act.put _ (some 14) _ = _
    simp only [Act.put, List.setIfInBounds_toArray, List.set_cons_zero, List.set_cons_succ, i64_w, i32_w]
    rfl
  refine one_ (i := 14) (N := some 19) #[true, true, true, true, true, true, true, true, true, true, true, true, true, true, true, false, false, false] rfl rfl (one_of HT_.out (by kernel_rfl)) (by decide) (fun K hK => ?_)
  refine goes_ Tryz.func74 (by kernel_rfl) rfl #[.string a.f2, .string b.f2] (by rfl) rfl rfl (by (try simp only [List.map_toArray, List.map_cons, List.map_nil]); first | done | rfl) ?_
  refine (strings_Compare.calls _ _ v2 _ (by rw [HV2.out]; rfl)).mono ?_
  rintro e wc14 ⟨rfl, hd⟩
  refine ⟨_, rfl, ?_⟩
  have D0_4 := Aside0.mk ((hd.below.block _ (lt_of D0_3.out)).trans D0_3.out)
  have D1_4 := Aside0.mk ((hd.below.block _ (lt_of D1_3.out)).trans D1_3.out)
  have HG_4 := Aside0.mk (Gr.drawn HG_3.out hd)
  clear hd hHeld
  refine hK.out _ _ ⟨cell_of D0_4.out 0, cell_of D0_4.out 1, cell_of D0_4.out 2, cell_of D1_4.out 0, cell_of D1_4.out 1, cell_of D1_4.out 2⟩ (fun hHeld => ?_)
  clear hK K
  refine norm_ (a' := ?_) ?_ ?_
  rotate_left
  · show Act.put _ (some 19) _ = _
    simp only [Act.put, List.setIfInBounds_toArray, List.set_cons_zero, List.set_cons_succ, i64_w, i32_w]
    rfl
  refine one_ (i := 15) (N := some 20) #[true, true, true, true, true, true, true, true, true, true, true, true, true, true, true, true, false, false] rfl rfl (one_of HT_.out (by kernel_rfl)) (by decide) (fun K hK => ?_)
  have hbA := below_alloc (Below.refl wc14.heap.size wc14) (.cells #[.int .i64 v0, .int .i64 v1, .int .i64 v2] 3)
  have hNw := heap_new wc14 (.cells #[.int .i64 v0, .int .i64 v1, .int .i64 v2] 3)
  have hGA := Gr.alloc HG_4.out (.cells #[.int .i64 v0, .int .i64 v1, .int .i64 v2] 3)
  refine value_ (w1 := ?_) (v := ?_) (by rfl) rfl ?_ ?_
  rotate_left
  rotate_left
  · go_simp
    constructor
    · rfl
    · rfl
  show K _ (wc14.alloc (.cells #[.int .i64 v0, .int .i64 v1, .int .i64 v2] 3))
  generalize hbx : wc14.heap.size = bx at hNw ⊢
  have HBX := Aside0.mk hbx; clear hbx
  generalize wc14.alloc (.cells #[.int .i64 v0, .int .i64 v1, .int .i64 v2] 3) = wa at hNw hbA hGA ⊢
  have D0_5 := Aside0.mk ((hbA.block _ (lt_of D0_4.out)).trans D0_4.out)
  have D1_5 := Aside0.mk ((hbA.block _ (lt_of D1_4.out)).trans D1_4.out)
  have HG_5 := Aside0.mk (hGA)
  have HNw := Aside0.mk hNw
  clear hbA hGA hHeld hNw
  refine hK.out _ _ ⟨cell_of D0_5.out 0, cell_of D0_5.out 1, cell_of D0_5.out 2, cell_of D1_5.out 0, cell_of D1_5.out 1, cell_of D1_5.out 2⟩ (fun hHeld => ?_)
  clear hK K
  refine norm_ (a' := ?_) ?_ ?_
  rotate_left
  · show Act.put _ (some 20) _ = _
    simp only [Act.put, List.setIfInBounds_toArray, List.set_cons_zero, List.set_cons_succ, i64_w, i32_w]
    rfl
  refine one_ (i := 16) (N := some 21) #[true, true, true, true, true, true, true, true, true, true, true, true, true, true, true, true, true, false] rfl rfl (one_of HT_.out (by kernel_rfl)) (by decide) (fun K hK => ?_)
  refine goes_ Tryz.func49 (by kernel_rfl) rfl #[.slice (some ⟨bx, 0, none⟩) 3 3] (by rfl) rfl rfl (by (try simp only [List.map_toArray, List.map_cons, List.map_nil]); first | done | rfl) ?_
  refine (cmp_Or_int.calls k (some ⟨bx, 0, none⟩) 3 [v0, v1, v2] _ wa (C_ints (l := [v0, v1, v2]) HNw.out) (Nat.le_refl _) HK.out).mono ?_
  rintro e wo ⟨rfl, hd⟩
  refine ⟨_, rfl, ?_⟩
  have D0_6 := Aside0.mk ((hd.below.block _ (lt_of D0_5.out)).trans D0_5.out)
  have D1_6 := Aside0.mk ((hd.below.block _ (lt_of D1_5.out)).trans D1_5.out)
  have HG_6 := Aside0.mk (Gr.drawn HG_5.out hd)
  clear hd hHeld
  refine hK.out _ _ ⟨cell_of D0_6.out 0, cell_of D0_6.out 1, cell_of D0_6.out 2, cell_of D1_6.out 0, cell_of D1_6.out 1, cell_of D1_6.out 2⟩ (fun hHeld => ?_)
  clear hK K
  refine norm_ (a' := ?_) ?_ ?_
  rotate_left
  · show Act.put _ (some 21) _ = _
    simp only [Act.put, List.setIfInBounds_toArray, List.set_cons_zero, List.set_cons_succ, i64_w, i32_w]
    rfl
  refine pure_ (i := 17) (N := some 4) (v := ?_) (a' := ?_) #[true, true, true, true, true, true, true, true, true, true, true, true, true, true, true, true, true, true] rfl rfl (any_of HT_.out (by kernel_rfl)) (fun _ _ _ h => h) (Or.inl ⟨by rfl, ?_⟩) ?_ ?_
  rotate_left
  · intro w'
    go_simp
    with_reducible rfl
  rotate_left
  · simp only [Act.put, List.setIfInBounds_toArray, List.set_cons_zero, List.set_cons_succ, i64_w, i32_w]
    rfl
  refine done_ (done_of HT_.out (by kernel_rfl)) ?_
  clear hHeld HT_
  go_wp2
  go_ret
  exact ⟨rfl, HG_6.out⟩
set_option maxHeartbeats 4000000 in
set_option maxRecDepth 100000 in
theorem place_gr (a b : SPl) (w : World) : Calls Tryz.prog 48 #[.agg #[.int .i64 a.f0, .int .i64 a.f1], .agg #[.int .i64 b.f0, .int .i64 b.f1]] w fun e w' => e = .returned (.int .i64 (cmpL a b)) ∧ Gr w w' := by
  obtain ⟨v0, hv0⟩ : ∃ v : Int, v = (if a.f0 < b.f0 then -1 else if b.f0 < a.f0 then 1 else 0) := ⟨_, rfl⟩
  obtain ⟨v1, hv1⟩ : ∃ v : Int, v = (if a.f1 < b.f1 then -1 else if b.f1 < a.f1 then 1 else 0) := ⟨_, rfl⟩
  obtain ⟨k, hk⟩ : ∃ k, cmp_Or_int.f k [v0, v1] = some (cmpL a b) := by rw [place_gr_spec, hv0, hv1]; exact (or2_ev _ _).ex
  have HV0 := Aside0.mk hv0
  have HV1 := Aside0.mk hv1
  clear hv0 hv1
  generalize hW : (w.alloc (.cells #[.int .i64 a.f0, .int .i64 a.f1] 69)).alloc (.cells #[.int .i64 b.f0, .int .i64 b.f1] 69) = w1
  have hG : Gr w w1 := by rw [← hW]; exact ((Gr.refl w).alloc _).alloc _
  have b0 : w1.heap[w.heap.size]? = some (.cells #[.int .i64 a.f0, .int .i64 a.f1] 69) := by rw [← hW]; exact heap_old (heap_new _ _)
  have b1 : w1.heap[w.heap.size + 1]? = some (.cells #[.int .i64 b.f0, .int .i64 b.f1] 69) := by rw [← hW]; have := heap_new (w.alloc (.cells #[.int .i64 a.f0, .int .i64 a.f1] 69)) (.cells #[.int .i64 b.f0, .int .i64 b.f1] 69); rw [size_new] at this; exact this
  have HW := Aside0.mk hW
  have D0 := Aside0.mk b0
  have D1 := Aside0.mk b1
  have HG := Aside0.mk hG
  have HK := Aside0.mk hk
  clear hW b0 b1 hG hk
  go_enter Tryz.func48, Tryz.ntmps48
  go_wp2
  rw [HW.out]
  clear HW
  refine start_ (n := 13) (S := fun w' => w'.cell? ⟨w.heap.size, 0, none⟩ = some (.int .i64 a.f0) ∧ w'.cell? ⟨w.heap.size, 1, none⟩ = some (.int .i64 a.f1) ∧ w'.cell? ⟨w.heap.size + 1, 0, none⟩ = some (.int .i64 b.f0) ∧ w'.cell? ⟨w.heap.size + 1, 1, none⟩ = some (.int .i64 b.f1)) (ds := []) #[false, false, false, false, false, false, false, false, false, false, false, false, false] (by kernel_rfl) rfl rfl ⟨cell_of D0.out 0, cell_of D0.out 1, cell_of D1.out 0, cell_of D1.out 1⟩ (fun hHeld => ?_); refine with_tab tab48_1 (fun HT_ => ?_)
  have hbD := below_drew1 (Below.refl w1.heap.size w1)
  have hG2 := HG.out.drew
  generalize w1.drew = w2 at hbD hHeld hG2 ⊢
  have D0_1 := Aside0.mk ((hbD.block _ (lt_of D0.out)).trans D0.out)
  have D1_1 := Aside0.mk ((hbD.block _ (lt_of D1.out)).trans D1.out)
  have HG_1 := Aside0.mk (hG2)
  clear hbD hG2
  refine pure_ (i := 0) (N := some 5) (v := ?_) (a' := ?_) #[true, false, false, false, false, false, false, false, false, false, false, false, false] rfl rfl (any_of HT_.out (by kernel_rfl)) (fun _ _ _ h => h) (Or.inl ⟨by rfl, ?_⟩) ?_ ?_
  rotate_left
  · intro w'
    go_simp
    with_reducible rfl
  rotate_left
  · simp only [Act.put, List.setIfInBounds_toArray, List.set_cons_zero, List.set_cons_succ, i64_w, i32_w]
    rfl
  refine pure_ (i := 2) (N := some 7) (v := ?_) (a' := ?_) #[true, false, true, false, false, false, false, false, false, false, false, false, false] rfl rfl (any_of HT_.out (by kernel_rfl)) (fun _ _ _ h => h) (Or.inl ⟨by rfl, ?_⟩) ?_ ?_
  rotate_left
  · intro w'
    go_simp
    with_reducible rfl
  rotate_left
  · simp only [Act.put, List.setIfInBounds_toArray, List.set_cons_zero, List.set_cons_succ, i64_w, i32_w]
    rfl
  refine pure_ (i := 5) (N := some 10) (v := ?_) (a' := ?_) #[true, false, true, false, false, true, false, false, false, false, false, false, false] rfl rfl (any_of HT_.out (by kernel_rfl)) (fun _ _ _ h => h) (Or.inl ⟨by rfl, ?_⟩) ?_ ?_
  rotate_left
  · intro w'
    go_simp
    with_reducible rfl
  rotate_left
  · simp only [Act.put, List.setIfInBounds_toArray, List.set_cons_zero, List.set_cons_succ, i64_w, i32_w]
    rfl
  refine pure_ (i := 7) (N := some 12) (v := ?_) (a' := ?_) #[true, false, true, false, false, true, false, true, false, false, false, false, false] rfl rfl (any_of HT_.out (by kernel_rfl)) (fun _ _ _ h => h) (Or.inl ⟨by rfl, ?_⟩) ?_ ?_
  rotate_left
  · intro w'
    go_simp
    with_reducible rfl
  rotate_left
  · simp only [Act.put, List.setIfInBounds_toArray, List.set_cons_zero, List.set_cons_succ, i64_w, i32_w]
    rfl
  refine take_ (i := 1) (N := some 6) (v := ?_) (a' := ?_) #[true, true, true, false, false, true, false, true, false, false, false, false, false] rfl rfl (take_of HT_.out (by kernel_rfl)) (fun _ _ _ h => h) (Or.inl ⟨by rfl, ?_⟩) hHeld ?_ ?_
  rotate_left
  · rintro w' ⟨s0, s1, s2, s3⟩
    go_simp
    with_reducible rfl
  rotate_left
  · simp only [Act.put, List.setIfInBounds_toArray, List.set_cons_zero, List.set_cons_succ, i64_w, i32_w]
    rfl
  refine take_ (i := 3) (N := some 8) (v := ?_) (a' := ?_) #[true, true, true, true, false, true, false, true, false, false, false, false, false] rfl rfl (take_of HT_.out (by kernel_rfl)) (fun _ _ _ h => h) (Or.inl ⟨by rfl, ?_⟩) hHeld ?_ ?_
  rotate_left
  · rintro w' ⟨s0, s1, s2, s3⟩
    go_simp
    with_reducible rfl
  rotate_left
  · simp only [Act.put, List.setIfInBounds_toArray, List.set_cons_zero, List.set_cons_succ, i64_w, i32_w]
    rfl
  refine take_ (i := 6) (N := some 11) (v := ?_) (a' := ?_) #[true, true, true, true, false, true, true, true, false, false, false, false, false] rfl rfl (take_of HT_.out (by kernel_rfl)) (fun _ _ _ h => h) (Or.inl ⟨by rfl, ?_⟩) hHeld ?_ ?_
  rotate_left
  · rintro w' ⟨s0, s1, s2, s3⟩
    go_simp
    with_reducible rfl
  rotate_left
  · simp only [Act.put, List.setIfInBounds_toArray, List.set_cons_zero, List.set_cons_succ, i64_w, i32_w]
    rfl
  refine take_ (i := 8) (N := some 13) (v := ?_) (a' := ?_) #[true, true, true, true, false, true, true, true, true, false, false, false, false] rfl rfl (take_of HT_.out (by kernel_rfl)) (fun _ _ _ h => h) (Or.inl ⟨by rfl, ?_⟩) hHeld ?_ ?_
  rotate_left
  · rintro w' ⟨s0, s1, s2, s3⟩
    go_simp
    with_reducible rfl
  rotate_left
  · simp only [Act.put, List.setIfInBounds_toArray, List.set_cons_zero, List.set_cons_succ, i64_w, i32_w]
    rfl
  refine one_ (i := 4) (N := some 9) #[true, true, true, true, true, true, true, true, true, false, false, false, false] rfl rfl (one_of HT_.out (by kernel_rfl)) (by decide) (fun K hK => ?_)
  refine goes_ Tryz.func50 (by kernel_rfl) rfl #[.int .i64 a.f0, .int .i64 b.f0] (by rfl) rfl rfl (by (try simp only [List.map_toArray, List.map_cons, List.map_nil]); first | done | rfl) ?_
  refine (cmp_Compare_int.calls _ _ v0 _ (by rw [HV0.out]; exact cmpI_eq a.f0 b.f0)).mono ?_
  rintro e wc4 ⟨rfl, hd⟩
  refine ⟨_, rfl, ?_⟩
  have D0_2 := Aside0.mk ((hd.below.block _ (lt_of D0_1.out)).trans D0_1.out)
  have D1_2 := Aside0.mk ((hd.below.block _ (lt_of D1_1.out)).trans D1_1.out)
  have HG_2 := Aside0.mk (Gr.drawn HG_1.out hd)
  clear hd hHeld
  refine hK.out _ _ ⟨cell_of D0_2.out 0, cell_of D0_2.out 1, cell_of D1_2.out 0, cell_of D1_2.out 1⟩ (fun hHeld => ?_)
  clear hK K
  refine norm_ (a' := ?_) ?_ ?_
  rotate_left
  · show Act.put _ (some 9) _ = _
    simp only [Act.put, List.setIfInBounds_toArray, List.set_cons_zero, List.set_cons_succ, i64_w, i32_w]
    rfl
  refine one_ (i := 9) (N := some 14) #[true, true, true, true, true, true, true, true, true, true, false, false, false] rfl rfl (one_of HT_.out (by kernel_rfl)) (by decide) (fun K hK => ?_)
  refine goes_ Tryz.func50 (by kernel_rfl) rfl #[.int .i64 a.f1, .int .i64 b.f1] (by rfl) rfl rfl (by (try simp only [List.map_toArray, List.map_cons, List.map_nil]); first | done | rfl) ?_
  refine (cmp_Compare_int.calls _ _ v1 _ (by rw [HV1.out]; exact cmpI_eq a.f1 b.f1)).mono ?_
  rintro e wc9 ⟨rfl, hd⟩
  refine ⟨_, rfl, ?_⟩
  have D0_3 := Aside0.mk ((hd.below.block _ (lt_of D0_2.out)).trans D0_2.out)
  have D1_3 := Aside0.mk ((hd.below.block _ (lt_of D1_2.out)).trans D1_2.out)
  have HG_3 := Aside0.mk (Gr.drawn HG_2.out hd)
  clear hd hHeld
  refine hK.out _ _ ⟨cell_of D0_3.out 0, cell_of D0_3.out 1, cell_of D1_3.out 0, cell_of D1_3.out 1⟩ (fun hHeld => ?_)
  clear hK K
  refine norm_ (a' := ?_) ?_ ?_
  rotate_left
  · show Act.put _ (some 14) _ = _
    simp only [Act.put, List.setIfInBounds_toArray, List.set_cons_zero, List.set_cons_succ, i64_w, i32_w]
    rfl
  refine one_ (i := 10) (N := some 15) #[true, true, true, true, true, true, true, true, true, true, true, false, false] rfl rfl (one_of HT_.out (by kernel_rfl)) (by decide) (fun K hK => ?_)
  have hbA := below_alloc (Below.refl wc9.heap.size wc9) (.cells #[.int .i64 v0, .int .i64 v1] 3)
  have hNw := heap_new wc9 (.cells #[.int .i64 v0, .int .i64 v1] 3)
  have hGA := Gr.alloc HG_3.out (.cells #[.int .i64 v0, .int .i64 v1] 3)
  refine value_ (w1 := ?_) (v := ?_) (by rfl) rfl ?_ ?_
  rotate_left
  rotate_left
  · go_simp
    constructor
    · rfl
    · rfl
  show K _ (wc9.alloc (.cells #[.int .i64 v0, .int .i64 v1] 3))
  generalize hbx : wc9.heap.size = bx at hNw ⊢
  have HBX := Aside0.mk hbx; clear hbx
  generalize wc9.alloc (.cells #[.int .i64 v0, .int .i64 v1] 3) = wa at hNw hbA hGA ⊢
  have D0_4 := Aside0.mk ((hbA.block _ (lt_of D0_3.out)).trans D0_3.out)
  have D1_4 := Aside0.mk ((hbA.block _ (lt_of D1_3.out)).trans D1_3.out)
  have HG_4 := Aside0.mk (hGA)
  have HNw := Aside0.mk hNw
  clear hbA hGA hHeld hNw
  refine hK.out _ _ ⟨cell_of D0_4.out 0, cell_of D0_4.out 1, cell_of D1_4.out 0, cell_of D1_4.out 1⟩ (fun hHeld => ?_)
  clear hK K
  refine norm_ (a' := ?_) ?_ ?_
  rotate_left
  · show Act.put _ (some 15) _ = _
    simp only [Act.put, List.setIfInBounds_toArray, List.set_cons_zero, List.set_cons_succ, i64_w, i32_w]
    rfl
  refine one_ (i := 11) (N := some 16) #[true, true, true, true, true, true, true, true, true, true, true, true, false] rfl rfl (one_of HT_.out (by kernel_rfl)) (by decide) (fun K hK => ?_)
  refine goes_ Tryz.func49 (by kernel_rfl) rfl #[.slice (some ⟨bx, 0, none⟩) 2 2] (by rfl) rfl rfl (by (try simp only [List.map_toArray, List.map_cons, List.map_nil]); first | done | rfl) ?_
  refine (cmp_Or_int.calls k (some ⟨bx, 0, none⟩) 2 [v0, v1] _ wa (C_ints (l := [v0, v1]) HNw.out) (Nat.le_refl _) HK.out).mono ?_
  rintro e wo ⟨rfl, hd⟩
  refine ⟨_, rfl, ?_⟩
  have D0_5 := Aside0.mk ((hd.below.block _ (lt_of D0_4.out)).trans D0_4.out)
  have D1_5 := Aside0.mk ((hd.below.block _ (lt_of D1_4.out)).trans D1_4.out)
  have HG_5 := Aside0.mk (Gr.drawn HG_4.out hd)
  clear hd hHeld
  refine hK.out _ _ ⟨cell_of D0_5.out 0, cell_of D0_5.out 1, cell_of D1_5.out 0, cell_of D1_5.out 1⟩ (fun hHeld => ?_)
  clear hK K
  refine norm_ (a' := ?_) ?_ ?_
  rotate_left
  · show Act.put _ (some 16) _ = _
    simp only [Act.put, List.setIfInBounds_toArray, List.set_cons_zero, List.set_cons_succ, i64_w, i32_w]
    rfl
  refine pure_ (i := 12) (N := some 4) (v := ?_) (a' := ?_) #[true, true, true, true, true, true, true, true, true, true, true, true, true] rfl rfl (any_of HT_.out (by kernel_rfl)) (fun _ _ _ h => h) (Or.inl ⟨by rfl, ?_⟩) ?_ ?_
  rotate_left
  · intro w'
    go_simp
    with_reducible rfl
  rotate_left
  · simp only [Act.put, List.setIfInBounds_toArray, List.set_cons_zero, List.set_cons_succ, i64_w, i32_w]
    rfl
  refine done_ (done_of HT_.out (by kernel_rfl)) ?_
  clear hHeld HT_
  go_wp2
  go_ret
  exact ⟨rfl, HG_5.out⟩
end Go.Proofs.YtldlenjfpjihdaaGreat.PS
end
section
namespace Go.Proofs.YtldlenjfpjihdaaGreat.PS
open Go Go.RowKit Go.Maps Go.WideMaps Go.Sort Go.Shelf Go.Proofs Go.Proofs.YtldlenjfpjihdaaGreatW.PrintWords
set_option linter.unusedVariables false
set_option linter.unusedSimpArgs false
theorem PPkeyed : Keyed Tryz.prog 37 := kmap
theorem PPsame (x : S37) : (pk x).sameKey (pk x) = true := by simp [pk, Lit.sameKey]
theorem PPdiffer {x y : S37} (hx : wfP x) (hy : wfP y) (hne : x ≠ y) : (pk x).sameKey (pk y) = false := by
  rw [← Bool.not_eq_true]
  intro h
  refine hne (pk_inj hx hy ?_)
  simpa [pk, Lit.sameKey] using h
theorem PPmk_inj {x y : S37} (h : pv x = pv y) : x = y := pv_inj h
/-- No key twice; a key is on the list just where the map has it and it is no longer to come. -/
def PPColl {H : Type} (D0 : DataW H) (left : Lit → Bool) (ss : List S37) : Prop := ss.Nodup ∧ ∀ x, x ∈ ss ↔ (wfP x ∧ has D0 (pk x) = true ∧ left (pk x) = false)
theorem PPColl.start {H : Type} (D0 : DataW H) : PPColl D0 (has D0) [] := ⟨List.nodup_nil, fun x => by cases has D0 (pk x) <;> simp⟩
theorem PPColl.step {H : Type} {D0 : DataW H} {left : Lit → Bool} {ss : List S37} (h : PPColl D0 left ss) {x : S37} (hx : wfP x) {y : DataW H} (hlk : left (pk x) = true) (hat : ∀ zd, D0.atKey (pk x) zd = y) :
    PPColl D0 (fun z => left z && !z.sameKey (pk x)) (ss ++ [x]) := by
  have hhas : has D0 (pk x) = true := has_true_of_atKey hat
  have hnew : x ∉ ss := fun hm => by have := ((h.2 x).1 hm).2.2; rw [hlk] at this; cases this
  refine ⟨List.nodup_append.2 ⟨h.1, by simp, fun a ha b hb => by simp at hb; subst hb; exact fun e => hnew (e ▸ ha)⟩, fun y => ?_⟩
  by_cases hy : y = x
  · subst hy; simp [hhas, hx, PPsame]
  · by_cases hwy : wfP y
    · have hne : (pk y).sameKey (pk x) = false := PPdiffer hwy hx hy
      simp [h.2 y, hy, hne, hwy]
    · have hn : y ∉ ss := fun hm => hwy ((h.2 y).1 hm).1
      simp [hn, hy, hwy]
theorem PPenc_inj {x y : S37} (h : pv x = pv y) : x = y := PPmk_inj h
set_option maxRecDepth 100000 in
set_option maxHeartbeats 2000000 in
/-- The iterator: the keys come, each once. -/
theorem PPkeys1 {H : Type} (F : Fence) (n : Nat) (h10 : F.fn 89) (hro : F.round = none) (hn : 1 ≤ n) (l Bm b nn : Nat) (D0 : DataW H) {R : Value → Option (DataW H × List MemPlace)} (J : List S37 → World → Prop)
    (hY : ∀ pre x W, wfP x → J pre W → pre.length < Maps.size D0 → YieldAt F (n - 1) Tryz.prog l #[pv x] W fun e W' => e = .returned (.bool true) ∧ J (pre ++ [x]) W' ∧ KeepsWalks W W')
    (W : World) (hJ : AbidesFrom W.heap.size J) (hm : W.cell? ⟨Bm, 0, none⟩ = some (.map (some b))) (hown : W.ownsMap Tryz.prog 37 R b nn D0) (h0 : J [] W) :
    CallsIn F n Tryz.prog 89 #[.func (.yield l) #[] #[], .pointer (some ⟨Bm, 0, none⟩)] W fun e W' => (∃ v, e = .returned v) ∧ ∃ ss : List S37, ss.length ≤ Maps.size D0 ∧ PPColl D0 (fun _ => false) ss ∧ J ss W' := by
  have hK := PPkeyed
  refine callsIn_of_wp Tryz.func89 rfl h10 ?_ hro
  simp only [Tryz.ntmps89, Tryz.f89, List.size_toArray, List.length_cons, List.length_nil, Nat.reduceAdd, Nat.reduceSub, Array.replicate_succ, Array.replicate_zero, List.push_toArray, List.append_toArray, List.nil_append, List.cons_append]
  gi_wp2_with (first
    | (gi_at_range; refine wpListIn_range_own _ rfl _ 59 rfl 37 60 hK Tryz.underlying59 _ b nn _ rfl hown ?_; intro w0 hrg0 hg0 hs0)
    | gi_in)
  go_frame
  gi_loopw [3] (fun _ wr => ∃ (left : Lit → Bool) (cnt : Nat) (ss : List S37), wr.ranges Tryz.prog 37 R b W.heap.size nn D0 left cnt ∧ ss.length + cnt ≤ Maps.size D0 ∧ PPColl D0 left ss ∧ J ss wr)
    (fun _ wr => wr.rangeLeft b W.heap.size)
  case atStart =>
    exact ⟨_, _, [], hrg0, by simp, PPColl.start D0, hJ [] W w0 none h0 hg0 (fun r e => by cases e)⟩
  case round =>
    obtain ⟨left, cnt, ss, hrg, hcs, hC, hJs⟩ := hrel
    gi_wp2_with (first
      | (gi_at_next; refine wpListIn_next_ranges _ rfl _ rfl 37 hK R pv id (fun key kl hk => by obtain ⟨x, hx, _⟩ := PPinv hk; exact ⟨x, hx⟩) (fun v _ _ => ⟨v, rfl⟩) b W.heap.size nn _ _ _ rfl hrg ?_ ?_)
      | gi_in)
    · intro hc0 hl0
      gi_wp2
      go_end0
      refine ⟨⟨_, rfl⟩, ss, by omega, ⟨hC.1, fun x => by rw [hC.2 x, hl0]⟩, hJs⟩
    · intro x c kl yd yp w2 cnt2 hkey hlk hv hat hrg2 hlt hg2 hs2 hen
      obtain ⟨x', ex, hwx, rfl⟩ := PPinv hkey
      obtain rfl : x = x' := PPenc_inj ex
      have hJ2 : J ss w2 := hJ ss wr w2 (some W.heap.size) hJs hg2 (fun r e => by cases e; exact ⟨Nat.le_refl _, hrg.iter_walk⟩)
      clear hs2
      obtain ⟨wb, hwb⟩ : ∃ wb, w2.alloc (.cells (enc37 x).toArray 37) = wb := ⟨_, rfl⟩
      have hgb : w2.grownBy wb none := by rw [← hwb]; exact ⟨rfl, rfl, rfl, by simp, fun i hi hne => Below.heap_alloc w2 _ i hi⟩
      have hkb : KeepsWalks w2 wb := by rw [← hwb]; exact KeepsWalks.alloc _ _
      have hJb : J ss wb := hJ ss w2 wb none hJ2 hgb (fun r e => by cases e)
      obtain ⟨fn, tmps, assign, body, hy, hR⟩ := hY ss x wb hwx hJb (by omega)
      unfold pv at hen ex hkey hy
      unfold enc37 at hwb
      have HWB := Aside0.mk hwb
      clear hwb
      gi_wp2_with fail
      rw [show (w2.alloc (.cells #[.int .i64 x.f0, .int .i64 x.f1, .string x.f2] 37)) = wb from HWB.out]
      rw [hy]
      gi_wp2
      refine hR.mono ?_
      rintro e W3 ⟨rfl, hJ3, hk3⟩
      gi_wp2
      have hrg3 := hrg2.of_walks (hkb.trans hk3)
      go_roundw
      case rel => exact ⟨_, cnt2, ss ++ [x], hrg3, by simp; omega, hC.step hwx hlk hat, hJ3⟩
      case measure => rw [hrg3.left_eq, hrg.left_eq]; exact hlt
set_option maxHeartbeats 1000000 in
/-- maps.Keys(m): the map is boxed; the function value captures the box. -/
theorem PPkeys (mb : Option Nat) (w : World) :
    Calls Tryz.prog 76 #[.map mb] w fun e w' => e = .returned (.func (.func 89) #[] #[.pointer (some ⟨w.heap.size, 0, none⟩)]) ∧ w' = w.alloc (.cells #[.map mb] 59) := by
  go_enter Tryz.func76, Tryz.ntmps76
  go_wp2
  go_ret
  exact ⟨rfl, rfl⟩
theorem PPgives {H : Type} (F : Fence) (n : Nat) (h10 : F.fn 89) (hro : F.round = none) (hn : 1 ≤ n) (Bm b nn : Nat) (D0 : DataW H) {R : Value → Option (DataW H × List MemPlace)} (w : World) (hBm : Bm < w.heap.size)
    (hm : w.cell? ⟨Bm, 0, none⟩ = some (.map (some b))) (hown : w.ownsMap Tryz.prog 37 R b nn D0) :
    SeqGives F n Tryz.prog 89 #[.pointer (some ⟨Bm, 0, none⟩)] pv (fun ss => ss.length ≤ Maps.size D0 ∧ PPColl D0 (fun _ => false) ss) (Maps.size D0) w := fun l J W hW hJ hY h0 => by
  have hown' : W.ownsMap Tryz.prog 37 R b nn D0 := by
    have hbl := hown.lt
    obtain ⟨es, clock, hb, Ft, hs, hD⟩ := hown
    exact ⟨es, clock, (hW.block b hbl).trans hb, Ft, hs, hD⟩
  refine (PPkeys1 F n h10 hro hn l Bm b nn D0 J (fun pre x W _ hp hl => hY pre x W hp hl) W hJ ((hW.cell (p := ⟨Bm, 0, none⟩) hBm).trans hm) hown' h0).mono ?_
  rintro e W' ⟨h1, ss, h2, h3, h4⟩
  exact ⟨h1, ss, ⟨h2, h3⟩, h4⟩
def PPapAssign : Code := (Code.region 2 #[{ dst := some 5, op := Op.alloc 37, type := 0, pos := "iter.go:51", after := #[], guard := none }, { dst := none, op := Op.store 37 (Operand.tmp 5) (Operand.tmp 7), type := 0, pos := "iter.go:51", after := #[{ on := 0, ground := Ground.data }, { on := 0, ground := Ground.phase }], guard := none }] false)
def PPapBody : Code := (Code.block 1 (Code.region 3 #[{ dst := some 8, op := Op.load 22 (Operand.tmp 2), type := 22, pos := "iter.go:52", after := #[], guard := none }, { dst := some 9, op := Op.load 37 (Operand.tmp 5), type := 37, pos := "iter.go:52", after := #[], guard := none }, { dst := some 10, op := Op.buildSlice 22 1 #[(0, Operand.tmp 9)], type := 22, pos := "iter.go:52", after := #[{ on := 1, ground := Ground.data }], guard := none }, { dst := some 11, op := Op.call { callee := Callee.builtin Builtin.append, args := #[Operand.tmp 8, Operand.tmp 10], argTypes := #[22, 22] }, type := 22, pos := "iter.go:52", after := #[{ on := 0, ground := Ground.data }, { on := 2, ground := Ground.data }], guard := none }, { dst := none, op := Op.store 22 (Operand.tmp 2) (Operand.tmp 11), type := 0, pos := "iter.go:52", after := #[{ on := 3, ground := Ground.data }, { on := 3, ground := Ground.chain }, { on := 0, ground := Ground.phase }, { on := 1, ground := Ground.phase }, { on := 2, ground := Ground.phase }, { on := 3, ground := Ground.phase }], guard := none }] false))
/-- The loop's record: AppendSeq's temporaries as_ they stood at the entering. -/
def PPapRec (fn : FuncId) (sv : Value) (Bs D : Nat) (st : LoopState) (pend : Option Code) : Loop :=
  { state := st, pending := pend, fn, tmps := #[.slice none 0 0, sv, .pointer (some ⟨Bs, 0, none⟩), undef, .slice none 0 0, undef, sv, undef, undef, undef, undef, undef, undef], params := #[7], assign := PPapAssign, body := PPapBody, defers := D }
/-- Between two rounds. -/
structure PPApAt (w0 : World) (fn : FuncId) (sv : Value) (Bs l D : Nat) (ss : List S37) (W : World) : Prop where
  box : ∃ v, W.heap[Bs]? = some (.cells #[v] 22 (0, 0)) ∧ W.ownsRow w0.heap.size 37 3 v ss.length (ss.flatMap enc37) ∧ (v = .slice none 0 0 ↔ ss = [])
  L : W.heap[l]? = some (.loop (PPapRec fn sv Bs D .ready none))
  K : W.heap[D]? = some (.deferred (some []))
  below : Below w0.heap.size w0 W
theorem PPap_abides (w0 : World) (fn : FuncId) (sv : Value) (Bs l D B : Nat) (hB : w0.heap.size ≤ B) : AbidesFrom B (PPApAt w0 fn sv Bs l D) := fun s W W' row h hg hrow => by
  have hrow' : ∀ r, row = some r → ∃ o : Obj, W.heap[r]? = some o ∧ o.isWalk = true := fun r e => (hrow r e).2
  obtain ⟨v, hv, hr, hn⟩ := h.box
  exact ⟨⟨v, (grownBy_keeps hg hrow' hv rfl).trans hv, ownsRow_abides_a hr hg hrow', hn⟩, (grownBy_keeps hg hrow' h.L rfl).trans h.L, (grownBy_keeps hg hrow' h.K rfl).trans h.K,
    h.below.grown hg h.below.size (fun k e => Nat.le_trans hB (hrow k e).1)⟩
set_option maxRecDepth 100000 in
set_option maxHeartbeats 4000000 in
theorem PPapYield (F : Fence) (m : Nat) (w0 : World) (fn : FuncId) (hfn : F.fn fn) (sv : Value) (Bs l D : Nat) (hBl : Bs ≠ l) (hDl : D ≠ l) (hDB : D ≠ Bs) (h0B : w0.heap.size ≤ Bs) (h0l : w0.heap.size ≤ l)
    (N : Nat) (hN : N ≤ maxLen) (hNb : N * 32 ≤ 140737488355328) (ss : List S37) (x : S37) (W : World) (h : PPApAt w0 fn sv Bs l D ss W) (hlen : ss.length < N) :
    YieldAt F m Tryz.prog l #[pv x] W fun e W' => e = .returned (.bool true) ∧ PPApAt w0 fn sv Bs l D (ss ++ [x]) W' ∧ KeepsWalks W W' := by
  obtain ⟨i0, hi, hz0, hz1, hz2⟩ := info_parts info37U
  obtain ⟨v, hv, hrow, _⟩ := h.box
  refine ⟨fn, #[.slice none 0 0, sv, .pointer (some ⟨Bs, 0, none⟩), undef, .slice none 0 0, undef, sv, pv x, undef, undef, undef, undef, undef], PPapAssign, PPapBody, by simpa [PPapRec] using run_yield (P := Tryz.prog) (args := #[pv x]) h.L rfl, roundIn_of_wpIn hfn ?_⟩
  have hl0 : l < W.heap.size := (Array.getElem?_eq_some_iff.1 h.L).1
  have hB0 : Bs < W.heap.size := (Array.getElem?_eq_some_iff.1 hv).1
  have hD0 : D < W.heap.size := (Array.getElem?_eq_some_iff.1 h.K).1
  obtain ⟨wa, hwa⟩ : ∃ wa, W.alloc (.cells (enc37 x).toArray 37) = wa := ⟨_, rfl⟩
  have hxa : wa.heap[W.heap.size]? = some (.cells (enc37 x).toArray 37 (0, 0)) := by rw [← hwa]; exact World.alloc_heap_new W _
  have hsa : wa.heap.size = W.heap.size + 1 := by rw [← hwa]; simp
  have holda : ∀ k, k < W.heap.size → wa.heap[k]? = W.heap[k]? := fun k hk => by rw [← hwa]; exact Below.heap_alloc _ _ k hk
  have hrowa : wa.ownsRow w0.heap.size 37 3 v ss.length (ss.flatMap enc37) := by rw [← hwa]; exact hrow.alloc _
  have hka : KeepsWalks W wa := by rw [← hwa]; exact KeepsWalks.alloc _ _
  have hba : Below w0.heap.size w0 wa := by rw [← hwa]; exact h.below.alloc h.below.size _
  have hLa : wa.heap[l]? = some (.loop (PPapRec fn sv Bs D .ready none)) := (holda l hl0).trans h.L
  have hva := (holda Bs hB0).trans hv
  have hKa := (holda D hD0).trans h.K
  have hbr := run_beginRound (P := Tryz.prog) hLa rfl
  obtain ⟨wb, hW2⟩ : ∃ wb, wa.putObj l (.loop { PPapRec fn sv Bs D .ready none with state := .busy }) = wb := ⟨_, rfl⟩
  rw [hW2] at hbr
  have hg2 : wa.grownBy wb (some l) := by rw [← hW2]; exact grownBy_putObj_a _ _ _
  have hk2 : KeepsWalks wa wb := by rw [← hW2]; exact KeepsWalks.putObj _ hLa rfl
  have hvb : wb.heap[Bs]? = some (.cells #[v] 22 (0, 0)) := by rw [← hW2]; exact (World.putObj_heap_other hBl).trans hva
  have hKb : wb.heap[D]? = some (.deferred (some [])) := by rw [← hW2]; exact (World.putObj_heap_other hDl).trans hKa
  have hLb : wb.heap[l]? = some (.loop { PPapRec fn sv Bs D .ready none with state := .busy }) := by rw [← hW2]; exact World.putObj_heap_same (by omega)
  have hxb : wb.heap[W.heap.size]? = some (.cells (enc37 x).toArray 37 (0, 0)) := by rw [← hW2]; exact (World.putObj_heap_other (by omega)).trans hxa
  have hrowb : wb.ownsRow w0.heap.size 37 3 v ss.length (ss.flatMap enc37) := hrowa.kept hg2 (ownsRow_ne_a hrowa hLa (fun cur e => by cases e))
  have hbb : Below w0.heap.size w0 wb := hba.grown hg2 hba.size (fun k e => by cases e; exact h0l)
  have hBlt : Bs < wb.heap.size := (Array.getElem?_eq_some_iff.1 hvb).1
  have hl2 : l < wb.heap.size := (Array.getElem?_eq_some_iff.1 hLb).1
  have hDlt : D < wb.heap.size := (Array.getElem?_eq_some_iff.1 hKb).1
  obtain ⟨hcb, hfb⟩ := cell_of_box_a hvb
  have hxc : ∀ j, wb.cell? ⟨W.heap.size, j, none⟩ = (enc37 x).toArray[j]? := fun j => by simp [World.cell?, hxb]
  have ne_of : ∀ {j : Nat} {o : Obj}, wb.heap[j]? = some o → (∀ cur, o ≠ .cells cur 37 (0, 0)) → some j ≠ v.ownBlock := fun hj hno => by
    rcases ownsRow_ne_a hrowb hj hno with e | e
    · rw [e]; simp
    · exact fun e' => e e'.symm
  have hxc0 : wb.cell? ⟨W.heap.size, 0, none⟩ = some (.int .i64 x.f0) := hxc 0
  have hxc1 : wb.cell? ⟨W.heap.size, 1, none⟩ = some (.int .i64 x.f1) := hxc 1
  have hxc2 : wb.cell? ⟨W.heap.size, 2, none⟩ = some (.string x.f2) := hxc 2
  clear hxc
  have HWA := Aside0.mk hwa
  clear hwa hW2 hsa holda
  unfold PPapAssign pv
  unfold enc37 at HWA
  gi_wp2_with gi_round_op_a
  rw [show (W.alloc (.cells #[.int .i64 x.f0, .int .i64 x.f1, .string x.f2] 37)) = wa from HWA.out]
  refine ⟨_, hbr, ?_⟩
  unfold PPapBody
  gi_wp2_with (first
    | (gi_at_builtin; refine wpListIn_append_own _ rfl _ _ 22 rfl w0.heap.size 37 i0 _ 3 32 Tryz.underlying22 hi hz0 hz1 hz2 rfl (by decide) _ _ _ rfl (hrowb.alloc _) ⟨wb.heap.size, 0, none⟩ 1 1 (enc37 x) rfl rfl (World.news_of_block (World.alloc_heap_new wb _)) (by intro u hu; simp [enc37] at hu; rcases hu with rfl | rfl | rfl <;> rfl) (by omega) (by omega) (by have := hbb.size; simp; omega) ?_; intro v' w3 hown' hg3 hnil3
       have hv3 : w3.heap[Bs]? = some (.cells #[v] 22 (0, 0)) := (hg3.block Bs (by simp; omega) (ne_of hvb (fun cur e => by cases e))).trans ((Below.heap_alloc _ _ Bs (by omega)).trans hvb)
       obtain ⟨hc3, hf3⟩ := cell_of_box_a hv3
       obtain ⟨g', cap', cur', rfl, hbase', hgb', hr1, hr2, hr3, hr4⟩ : ∃ g' cap' cur', v' = .slice (some ⟨g', 0, none⟩) (ss.length + 1) cap' ∧ w0.heap.size ≤ g' ∧ w3.heap[g']? = some (.cells cur' 37 (0, 0)) ∧ ss.length + 1 ≤ cap' ∧ cap' ≤ maxLen ∧ cur'.size = cap' * 3 ∧ cur'.toList.take ((ss.length + 1) * 3) = ss.flatMap enc37 ++ enc37 x := by
         rcases hown'.2 with ⟨_, h0⟩ | h'
         · exact absurd h0 (by omega)
         · exact h'
       go_frame)
    | gi_round_op_a)
  have hg3' : (wb.alloc (.cells (enc37 x).toArray 37)).grownBy w3 v.ownBlock := hg3
  have hL3 : w3.heap[l]? = some (.loop { PPapRec fn sv Bs D .ready none with state := .busy }) := (hg3'.block l (by simp; omega) (ne_of hLb (fun cur e => by cases e))).trans ((Below.heap_alloc _ _ l (by omega)).trans hLb)
  have hK3 : w3.heap[D]? = some (.deferred (some [])) := (hg3'.block D (by simp; omega) (ne_of hKb (fun cur e => by cases e))).trans ((Below.heap_alloc _ _ D (by omega)).trans hKb)
  obtain ⟨w4, hw4⟩ : ∃ w4, w3.setCell ⟨Bs, 0, none⟩ (.slice (some ⟨g', 0, none⟩) (ss.length + 1) cap') = w4 := ⟨_, rfl⟩
  rw [hw4]
  have hg4 : w3.grownBy w4 (some Bs) := by rw [← hw4]; exact grownBy_setCell0_a _ _ _
  have hv4 : w4.heap[Bs]? = some (.cells #[.slice (some ⟨g', 0, none⟩) (ss.length + 1) cap'] 22 (0, 0)) := by rw [← hw4]; exact heap_setCell_box_a _ hv3
  have hL4 : w4.heap[l]? = some (.loop { PPapRec fn sv Bs D .ready none with state := .busy }) := (hg4.block l (Array.getElem?_eq_some_iff.1 hL3).1 (fun e => hBl (by cases e; rfl))).trans hL3
  have hK4 : w4.heap[D]? = some (.deferred (some [])) := (hg4.block D (Array.getElem?_eq_some_iff.1 hK3).1 (fun e => hDB (by cases e; rfl))).trans hK3
  have hrow4 := hown'.kept hg4 (ownsRow_ne_a hown' hv3 (fun cur e => by cases e))
  have hl4 : l < w4.heap.size := (Array.getElem?_eq_some_iff.1 hL4).1
  have hb3 : Below w0.heap.size w0 w3 := (hbb.alloc hbb.size _).grown hg3' (by have := hbb.size; simp; omega) (fun k e => (hrowb.lt k e).1)
  have hb4 : Below w0.heap.size w0 w4 := hb3.grown hg4 hb3.size (fun k e => by cases e; exact h0B)
  have hk4 : KeepsWalks W w4 := (((hka.trans hk2).trans (KeepsWalks.alloc _ _)).trans (KeepsWalks.of_grownBy hg3' (ownsRow_not_walk_a (hrowb.alloc _)))).trans (by rw [← hw4]; exact KeepsWalks.setCell _ _ _)
  clear hw4
  refine ⟨_, _, run_endRound none hL4, rfl, ⟨⟨_, (World.putObj_heap_other hBl).trans hv4, ?_, by simp⟩, World.putObj_heap_same hl4, (World.putObj_heap_other hDl).trans hK4, hb4.grown (grownBy_putObj_a _ _ _) hb4.size (fun k e => by cases e; exact h0l)⟩, hk4.trans (KeepsWalks.putObj _ hL4 rfl)⟩
  have := hrow4.kept (grownBy_putObj_a w4 l (.loop { { PPapRec fn sv Bs D .ready none with state := .busy } with state := if (none : Option Code).isNone then .ready else .done, pending := none })) (ownsRow_ne_a hrow4 hL4 (fun cur e => by cases e))
  simpa [List.flatMap_append] using this
set_option maxRecDepth 100000 in
set_option maxHeartbeats 4000000 in
/-- slices.AppendSeq(nil, seq). -/
theorem PPappendSeq (F : Fence) (n : Nat) (h11 : F.fn 110) (hro : F.round = none) (hn : 2 ≤ n) (g : Nat) (lb : Array Value) (hFg : F.fn g) (eg : ∀ args w, (callFunc g args).run Tryz.prog w = .ok (.enter g args) w)
    (S : List S37 → Prop) (N : Nat) (hN : N ≤ maxLen) (hNb : N * 32 ≤ 140737488355328) (w : World) (hseq : SeqGives F (n - 1) Tryz.prog g lb pv S N w) :
    CallsIn F n Tryz.prog 110 #[.slice none 0 0, .func (.func g) #[] lb] w fun e w' => ∃ (v : Value) (ss : List S37), e = .returned v ∧ S ss ∧ w'.ownsRow w.heap.size 37 3 v ss.length (ss.flatMap enc37) ∧ (v = .slice none 0 0 ↔ ss = []) ∧ Below w.heap.size w w' := by
  have h1 : 1 ≤ n := by omega
  refine callsIn_of_wp_marks Tryz.func110 rfl h11 ?_ hro
  simp only [Tryz.ntmps110, List.size_toArray, List.length_cons, List.length_nil, Nat.reduceAdd, Nat.reduceSub, Array.replicate_succ, Array.replicate_zero, List.push_toArray, List.append_toArray, List.nil_append, List.cons_append]
  gi_wp2
  refine wpIn_rangeFunc ?_
  intro fn hfn
  rw [hro]
  obtain ⟨W0, hW0⟩ : ∃ W0, w.alloc (.cells #[.slice none 0 0] 22) = W0 := ⟨_, rfl⟩
  have hs0 : W0.heap.size = w.heap.size + 1 := by rw [← hW0]; simp
  have hv0 : W0.heap[w.heap.size]? = some (.cells #[.slice none 0 0] 22 (0, 0)) := by rw [← hW0]; exact World.alloc_heap_new w _
  have hb0 : Below w.heap.size w W0 := by rw [← hW0]; exact (Below.refl _ w).alloc (Nat.le_refl _) _
  rw [hW0]
  obtain ⟨W1, hW1⟩ : ∃ W1, (W0.alloc (.deferred (some []))).alloc (.loop (PPapRec fn (.func (.func g) #[] lb) w.heap.size W0.heap.size .ready none)) = W1 := ⟨_, rfl⟩
  have hold : ∀ k, k < W0.heap.size → W1.heap[k]? = W0.heap[k]? := fun k hk => by
    rw [← hW1]; exact (Below.heap_alloc _ _ k (by simp; omega)).trans (Below.heap_alloc _ _ k hk)
  have hb1 : Below w.heap.size w W1 := by rw [← hW1]; exact (hb0.alloc hb0.size _).alloc (by have := hb0.size; simp; omega) _
  have hs1 : W1.heap.size = W0.heap.size + 2 := by rw [← hW1]; simp
  have hM : PPApAt w fn (.func (.func g) #[] lb) w.heap.size (W0.heap.size + 1) W0.heap.size [] W1 :=
    ⟨⟨_, (hold w.heap.size (by omega)).trans hv0, ⟨rfl, .inl ⟨rfl, rfl⟩⟩, by simp⟩,
     by rw [← hW1]; have := World.alloc_heap_new (W0.alloc (.deferred (some []))) (.loop (PPapRec fn (.func (.func g) #[] lb) w.heap.size W0.heap.size .ready none)); rwa [World.size_alloc] at this,
     by rw [← hW1]; exact (Below.heap_alloc _ _ _ (by simp)).trans (World.alloc_heap_new W0 _), hb1⟩
  refine ⟨W0.heap.size + 1, [{ target := .collected W0.heap.size, args := #[] }], W1, { target := .fn (.func g) lb, args := #[.func (.yield (W0.heap.size + 1)) #[] #[]] }, W1, g,
    #[.func (.yield (W0.heap.size + 1)) #[] #[]] ++ lb, W1, ?_, ?_, ?_, ?_, fun _ => h1, ?_⟩
  · rw [← hW1]; exact run_enterLoop_outer _ _ _ _ _
  · simp [resolve, go_sem]
  · intro f' hf'; simp [Target.leads] at hf'; subst hf'; exact hFg
  · simp [invoke, go_sem, eg]
  · refine (hseq (W0.heap.size + 1) (PPApAt w fn (.func (.func g) #[] lb) w.heap.size (W0.heap.size + 1) W0.heap.size) W1 hb1 (PPap_abides _ _ _ _ _ _ _ hb1.size)
      (fun pre x W hJ hl => PPapYield F (n - 1 - 1) w fn hfn _ w.heap.size (W0.heap.size + 1) W0.heap.size (by omega) (by omega) (by omega) (Nat.le_refl _) (by omega) N hN hNb pre x W hJ hl) hM).mono ?_
    rintro e W2 ⟨⟨v0, rfl⟩, ss, hS, h2⟩
    obtain ⟨v, hv, hrow, hnil⟩ := h2.box
    have hend := run_endLoop (P := Tryz.prog) h2.L (by simp [PPapRec])
    obtain ⟨W3, hW3⟩ : ∃ W3, W2.putObj (W0.heap.size + 1) (.loop { PPapRec fn (.func (.func g) #[] lb) w.heap.size W0.heap.size .ready none with state := .exhausted }) = W3 := ⟨_, rfl⟩
    rw [hW3] at hend
    have hg3 : W2.grownBy W3 (some (W0.heap.size + 1)) := by rw [← hW3]; exact grownBy_putObj_a _ _ _
    have hv3 : W3.heap[w.heap.size]? = some (.cells #[v] 22 (0, 0)) := by rw [← hW3]; exact (World.putObj_heap_other (by omega)).trans hv
    have hK3 : W3.heap[W0.heap.size]? = some (.deferred (some [])) := by rw [← hW3]; exact (World.putObj_heap_other (by omega)).trans h2.K
    have hrow3 := hrow.kept hg3 (ownsRow_ne_a hrow h2.L (fun cur e => by cases e))
    have hb3 : Below w.heap.size w W3 := h2.below.grown hg3 h2.below.size (fun k e => by cases e; omega)
    obtain ⟨hc3, hf3⟩ := cell_of_box_a hv3
    clear hW3
    refine ⟨none, W3, hend, ?_⟩
    gi_wp2
    rw [← hs0]
    refine ⟨by simp, .inl ⟨_, _, rfl, run_takeDeferred hK3, ?_⟩⟩
    exact ⟨_, results_tmp rfl _ _ _, v, ss, rfl, hS, hrow3.kept (grownBy_putObj_a _ _ _) (ownsRow_ne_a hrow3 hK3 (fun cur e => by cases e)), hnil, hb3.grown (grownBy_putObj_a _ _ _) hb3.size (fun k e => by cases e; omega)⟩
set_option maxHeartbeats 1000000 in
/-- slices.Collect(maps.Keys(m)). -/
theorem PPcollect (F : Fence) (n : Nat) (h8 : F.fn 87) (h11 : F.fn 110) (hro : F.round = none) (hn : 3 ≤ n) (g : Nat) (lb : Array Value) (hFg : F.fn g) (eg : ∀ args w, (callFunc g args).run Tryz.prog w = .ok (.enter g args) w)
    (S : List S37 → Prop) (N : Nat) (hN : N ≤ maxLen) (hNb : N * 32 ≤ 140737488355328) (w : World) (hseq : SeqGives F (n - 1 - 1) Tryz.prog g lb pv S N w) :
    CallsIn F n Tryz.prog 87 #[.func (.func g) #[] lb] w fun e w' => ∃ (v : Value) (ss : List S37), e = .returned v ∧ S ss ∧ w'.ownsRow w.heap.size 37 3 v ss.length (ss.flatMap enc37) ∧ (v = .slice none 0 0 ↔ ss = []) ∧ Below w.heap.size w w' := by
  have h1 : 1 ≤ n := by omega
  refine callsIn_of_wp Tryz.func87 rfl h8 ?_ hro
  simp only [Tryz.ntmps87, Tryz.f87, List.size_toArray, List.length_cons, List.length_nil, Nat.reduceAdd, Nat.reduceSub, Array.replicate_succ, Array.replicate_zero, List.push_toArray, List.append_toArray, List.nil_append, List.cons_append]
  gi_wp2_with fail
  refine (PPappendSeq F (n - 1) h11 hro (by omega) g lb hFg eg S N hN hNb _ hseq).mono ?_
  rintro e w' ⟨v, ss, rfl, hS, hrow, hnil, hb⟩
  gi_wp2
  go_ret
  exact ⟨v, ss, rfl, hS, hrow, hnil, hb⟩
def lv (x : SPl) : Value := .agg #[.int .i64 x.f0, .int .i64 x.f1]
def encL (x : SPl) : List Value := [.int .i64 x.f0, .int .i64 x.f1]
def wfL (x : SPl) : Prop := (Lit.int .i64 x.f0).wf = true ∧ (Lit.int .i64 x.f1).wf = true
def lk (x : SPl) : Lit := .string (keyBytes [.int .i64 x.f0, .int .i64 x.f1])
theorem row69 : (69 : TypeId) < Tryz.prog.types.size := of_decide_eq_true (by kernel_rfl)
theorem wide69 : (match Tryz.prog.underlying 69 with | some (.array _ _) | some (.struct _) => true | _ => false) = true := by rw [Tryz.underlying69]
set_option maxRecDepth 100000 in
theorem law69 : KeyLaw Tryz.prog 69 := deep_law_laid laidOut_ (m := 2) (by omega) row69 (by kernel_rfl) wide69
theorem kmapL : Keyed Tryz.prog 69 := Keyed.of_law law69
theorem kt69 : Tryz.prog.keyType 69 = true := by kernel_rfl
theorem size69 : Tryz.prog.cellsOf 69 = 2 := by kernel_rfl
theorem klt {x : SPl} (h : wfL x) : keyOf Tryz.prog 69 (lv x) = some (lk x) := by
  have hkt := kt69
  obtain ⟨m, hm⟩ := msize
  obtain ⟨h0, h1⟩ := h
  unfold keyOf lv lk
  simp only [Tryz.underlying69]
  rw [if_pos (by simp [hkt, Value.formed, Tryz.underlying69, size69]), hm]
  unfold Program.keyLits
  simp only [Tryz.underlying69, Value.cells]
  rw [if_pos ⟨by rw [size69]; rfl, by kernel_rfl⟩]
  simp [size3, Program.keyLits, Tryz.underlying3, h0, h1]
theorem lv_inj {x y : SPl} (h : lv x = lv y) : x = y := by
  cases x; cases y
  simpa [lv] using h
theorem lk_inj {x y : SPl} (hx : wfL x) (hy : wfL y) (h : lk x = lk y) : x = y := by
  have h1 := klt hx
  rw [h] at h1
  exact lv_inj (kmapL.inj h1 (klt hy))
set_option maxRecDepth 100000 in
theorem PLinv {v : Value} {kl : Lit} (h : keyOf Tryz.prog 69 v = some kl) : ∃ x : SPl, v = lv x ∧ wfL x ∧ kl = lk x := by
  obtain ⟨cs, ls, rfl, hsz, h1, rfl⟩ := keyOf_struct_inv Tryz.underlying69 h
  obtain ⟨m, hm⟩ := msize
  rw [size69] at hsz
  obtain ⟨l⟩ := cs
  match l, hsz with
  | [c0, c1], _ =>
    rw [hm] at h1
    simp only [List.mapM_cons, List.mapM_nil, size3, Option.bind_eq_bind, List.drop_zero, List.take_succ_cons, List.take_zero, List.drop_succ_cons] at h1
    obtain ⟨ls', h2, rfl⟩ := Option.map_eq_some_iff.1 h1
    obtain ⟨a0, e0, h3⟩ := Option.bind_eq_some_iff.1 h2
    obtain ⟨rest, h4, p1⟩ := Option.bind_eq_some_iff.1 h3
    obtain ⟨a1, e1, h5⟩ := Option.bind_eq_some_iff.1 h4
    clear h h1 h2 h3 h4
    obtain ⟨n0, g0, w0, rfl⟩ := keyInt_inv Tryz.underlying3 e0
    obtain ⟨n1, g1, w1, rfl⟩ := keyInt_inv Tryz.underlying3 e1
    simp at g0 g1 p1 h5
    subst g0 g1 h5 p1
    exact ⟨⟨n0, n1⟩, rfl, ⟨w0, w1⟩, rfl⟩
theorem info69U : (Tryz.prog.info? 69).map (fun i => (i.zero, i.size, i.bytes)) = some (some (.agg #[(.int .i64 0), (.int .i64 0)]), 2, 16) := by kernel_rfl
theorem PLkeyed : Keyed Tryz.prog 69 := kmapL
theorem PLsame (x : SPl) : (lk x).sameKey (lk x) = true := by simp [lk, Lit.sameKey]
theorem PLdiffer {x y : SPl} (hx : wfL x) (hy : wfL y) (hne : x ≠ y) : (lk x).sameKey (lk y) = false := by
  rw [← Bool.not_eq_true]
  intro h
  refine hne (lk_inj hx hy ?_)
  simpa [lk, Lit.sameKey] using h
theorem PLmk_inj {x y : SPl} (h : lv x = lv y) : x = y := lv_inj h
/-- No key twice; a key is on the list just where the map has it and it is no longer to come. -/
def PLColl {H : Type} (D0 : DataW H) (left : Lit → Bool) (ss : List SPl) : Prop := ss.Nodup ∧ ∀ x, x ∈ ss ↔ (wfL x ∧ has D0 (lk x) = true ∧ left (lk x) = false)
theorem PLColl.start {H : Type} (D0 : DataW H) : PLColl D0 (has D0) [] := ⟨List.nodup_nil, fun x => by cases has D0 (lk x) <;> simp⟩
theorem PLColl.step {H : Type} {D0 : DataW H} {left : Lit → Bool} {ss : List SPl} (h : PLColl D0 left ss) {x : SPl} (hx : wfL x) {y : DataW H} (hlk : left (lk x) = true) (hat : ∀ zd, D0.atKey (lk x) zd = y) :
    PLColl D0 (fun z => left z && !z.sameKey (lk x)) (ss ++ [x]) := by
  have hhas : has D0 (lk x) = true := has_true_of_atKey hat
  have hnew : x ∉ ss := fun hm => by have := ((h.2 x).1 hm).2.2; rw [hlk] at this; cases this
  refine ⟨List.nodup_append.2 ⟨h.1, by simp, fun a ha b hb => by simp at hb; subst hb; exact fun e => hnew (e ▸ ha)⟩, fun y => ?_⟩
  by_cases hy : y = x
  · subst hy; simp [hhas, hx, PLsame]
  · by_cases hwy : wfL y
    · have hne : (lk y).sameKey (lk x) = false := PLdiffer hwy hx hy
      simp [h.2 y, hy, hne, hwy]
    · have hn : y ∉ ss := fun hm => hwy ((h.2 y).1 hm).1
      simp [hn, hy, hwy]
theorem PLenc_inj {x y : SPl} (h : lv x = lv y) : x = y := PLmk_inj h
set_option maxRecDepth 100000 in
set_option maxHeartbeats 2000000 in
/-- The iterator: the keys come, each once. -/
theorem PLkeys1 {H : Type} (F : Fence) (n : Nat) (h10 : F.fn 67) (hro : F.round = none) (hn : 1 ≤ n) (l Bm b nn : Nat) (D0 : DataW H) {R : Value → Option (DataW H × List MemPlace)} (J : List SPl → World → Prop)
    (hY : ∀ pre x W, wfL x → J pre W → pre.length < Maps.size D0 → YieldAt F (n - 1) Tryz.prog l #[lv x] W fun e W' => e = .returned (.bool true) ∧ J (pre ++ [x]) W' ∧ KeepsWalks W W')
    (W : World) (hJ : AbidesFrom W.heap.size J) (hm : W.cell? ⟨Bm, 0, none⟩ = some (.map (some b))) (hown : W.ownsMap Tryz.prog 69 R b nn D0) (h0 : J [] W) :
    CallsIn F n Tryz.prog 67 #[.func (.yield l) #[] #[], .pointer (some ⟨Bm, 0, none⟩)] W fun e W' => (∃ v, e = .returned v) ∧ ∃ ss : List SPl, ss.length ≤ Maps.size D0 ∧ PLColl D0 (fun _ => false) ss ∧ J ss W' := by
  have hK := PLkeyed
  refine callsIn_of_wp Tryz.func67 rfl h10 ?_ hro
  simp only [Tryz.ntmps67, Tryz.f67, List.size_toArray, List.length_cons, List.length_nil, Nat.reduceAdd, Nat.reduceSub, Array.replicate_succ, Array.replicate_zero, List.push_toArray, List.append_toArray, List.nil_append, List.cons_append]
  gi_wp2_with (first
    | (gi_at_range; refine wpListIn_range_own _ rfl _ 67 rfl 69 70 hK Tryz.underlying67 _ b nn _ rfl hown ?_; intro w0 hrg0 hg0 hs0)
    | gi_in)
  go_frame
  gi_loopw [3] (fun _ wr => ∃ (left : Lit → Bool) (cnt : Nat) (ss : List SPl), wr.ranges Tryz.prog 69 R b W.heap.size nn D0 left cnt ∧ ss.length + cnt ≤ Maps.size D0 ∧ PLColl D0 left ss ∧ J ss wr)
    (fun _ wr => wr.rangeLeft b W.heap.size)
  case atStart =>
    exact ⟨_, _, [], hrg0, by simp, PLColl.start D0, hJ [] W w0 none h0 hg0 (fun r e => by cases e)⟩
  case round =>
    obtain ⟨left, cnt, ss, hrg, hcs, hC, hJs⟩ := hrel
    gi_wp2_with (first
      | (gi_at_next; refine wpListIn_next_ranges _ rfl _ rfl 69 hK R lv id (fun key kl hk => by obtain ⟨x, hx, _⟩ := PLinv hk; exact ⟨x, hx⟩) (fun v _ _ => ⟨v, rfl⟩) b W.heap.size nn _ _ _ rfl hrg ?_ ?_)
      | gi_in)
    · intro hc0 hl0
      gi_wp2
      go_end0
      refine ⟨⟨_, rfl⟩, ss, by omega, ⟨hC.1, fun x => by rw [hC.2 x, hl0]⟩, hJs⟩
    · intro x c kl yd yp w2 cnt2 hkey hlk hv hat hrg2 hlt hg2 hs2 hen
      obtain ⟨x', ex, hwx, rfl⟩ := PLinv hkey
      obtain rfl : x = x' := PLenc_inj ex
      have hJ2 : J ss w2 := hJ ss wr w2 (some W.heap.size) hJs hg2 (fun r e => by cases e; exact ⟨Nat.le_refl _, hrg.iter_walk⟩)
      clear hs2
      obtain ⟨wb, hwb⟩ : ∃ wb, w2.alloc (.cells (encL x).toArray 69) = wb := ⟨_, rfl⟩
      have hgb : w2.grownBy wb none := by rw [← hwb]; exact ⟨rfl, rfl, rfl, by simp, fun i hi hne => Below.heap_alloc w2 _ i hi⟩
      have hkb : KeepsWalks w2 wb := by rw [← hwb]; exact KeepsWalks.alloc _ _
      have hJb : J ss wb := hJ ss w2 wb none hJ2 hgb (fun r e => by cases e)
      obtain ⟨fn, tmps, assign, body, hy, hR⟩ := hY ss x wb hwx hJb (by omega)
      unfold lv at hen ex hkey hy
      unfold encL at hwb
      have HWB := Aside0.mk hwb
      clear hwb
      gi_wp2_with fail
      rw [show (w2.alloc (.cells #[.int .i64 x.f0, .int .i64 x.f1] 69)) = wb from HWB.out]
      rw [hy]
      gi_wp2
      refine hR.mono ?_
      rintro e W3 ⟨rfl, hJ3, hk3⟩
      gi_wp2
      have hrg3 := hrg2.of_walks (hkb.trans hk3)
      go_roundw
      case rel => exact ⟨_, cnt2, ss ++ [x], hrg3, by simp; omega, hC.step hwx hlk hat, hJ3⟩
      case measure => rw [hrg3.left_eq, hrg.left_eq]; exact hlt
set_option maxHeartbeats 1000000 in
/-- maps.Keys(m): the map is boxed; the function value captures the box. -/
theorem PLkeys (mb : Option Nat) (w : World) :
    Calls Tryz.prog 47 #[.map mb] w fun e w' => e = .returned (.func (.func 67) #[] #[.pointer (some ⟨w.heap.size, 0, none⟩)]) ∧ w' = w.alloc (.cells #[.map mb] 67) := by
  go_enter Tryz.func47, Tryz.ntmps47
  go_wp2
  go_ret
  exact ⟨rfl, rfl⟩
theorem PLgives {H : Type} (F : Fence) (n : Nat) (h10 : F.fn 67) (hro : F.round = none) (hn : 1 ≤ n) (Bm b nn : Nat) (D0 : DataW H) {R : Value → Option (DataW H × List MemPlace)} (w : World) (hBm : Bm < w.heap.size)
    (hm : w.cell? ⟨Bm, 0, none⟩ = some (.map (some b))) (hown : w.ownsMap Tryz.prog 69 R b nn D0) :
    SeqGives F n Tryz.prog 67 #[.pointer (some ⟨Bm, 0, none⟩)] lv (fun ss => ss.length ≤ Maps.size D0 ∧ PLColl D0 (fun _ => false) ss) (Maps.size D0) w := fun l J W hW hJ hY h0 => by
  have hown' : W.ownsMap Tryz.prog 69 R b nn D0 := by
    have hbl := hown.lt
    obtain ⟨es, clock, hb, Ft, hs, hD⟩ := hown
    exact ⟨es, clock, (hW.block b hbl).trans hb, Ft, hs, hD⟩
  refine (PLkeys1 F n h10 hro hn l Bm b nn D0 J (fun pre x W _ hp hl => hY pre x W hp hl) W hJ ((hW.cell (p := ⟨Bm, 0, none⟩) hBm).trans hm) hown' h0).mono ?_
  rintro e W' ⟨h1, ss, h2, h3, h4⟩
  exact ⟨h1, ss, ⟨h2, h3⟩, h4⟩
def PLapAssign : Code := (Code.region 2 #[{ dst := some 5, op := Op.alloc 69, type := 0, pos := "iter.go:51", after := #[], guard := none }, { dst := none, op := Op.store 69 (Operand.tmp 5) (Operand.tmp 7), type := 0, pos := "iter.go:51", after := #[{ on := 0, ground := Ground.data }, { on := 0, ground := Ground.phase }], guard := none }] false)
def PLapBody : Code := (Code.block 1 (Code.region 3 #[{ dst := some 8, op := Op.load 71 (Operand.tmp 2), type := 71, pos := "iter.go:52", after := #[], guard := none }, { dst := some 9, op := Op.load 69 (Operand.tmp 5), type := 69, pos := "iter.go:52", after := #[], guard := none }, { dst := some 10, op := Op.buildSlice 71 1 #[(0, Operand.tmp 9)], type := 71, pos := "iter.go:52", after := #[{ on := 1, ground := Ground.data }], guard := none }, { dst := some 11, op := Op.call { callee := Callee.builtin Builtin.append, args := #[Operand.tmp 8, Operand.tmp 10], argTypes := #[71, 71] }, type := 71, pos := "iter.go:52", after := #[{ on := 0, ground := Ground.data }, { on := 2, ground := Ground.data }], guard := none }, { dst := none, op := Op.store 71 (Operand.tmp 2) (Operand.tmp 11), type := 0, pos := "iter.go:52", after := #[{ on := 3, ground := Ground.data }, { on := 3, ground := Ground.chain }, { on := 0, ground := Ground.phase }, { on := 1, ground := Ground.phase }, { on := 2, ground := Ground.phase }, { on := 3, ground := Ground.phase }], guard := none }] false))
/-- The loop's record: AppendSeq's temporaries as_ they stood at the entering. -/
def PLapRec (fn : FuncId) (sv : Value) (Bs D : Nat) (st : LoopState) (pend : Option Code) : Loop :=
  { state := st, pending := pend, fn, tmps := #[.slice none 0 0, sv, .pointer (some ⟨Bs, 0, none⟩), undef, .slice none 0 0, undef, sv, undef, undef, undef, undef, undef, undef], params := #[7], assign := PLapAssign, body := PLapBody, defers := D }
/-- Between two rounds. -/
structure PLApAt (w0 : World) (fn : FuncId) (sv : Value) (Bs l D : Nat) (ss : List SPl) (W : World) : Prop where
  box : ∃ v, W.heap[Bs]? = some (.cells #[v] 71 (0, 0)) ∧ W.ownsRow w0.heap.size 69 2 v ss.length (ss.flatMap encL) ∧ (v = .slice none 0 0 ↔ ss = [])
  L : W.heap[l]? = some (.loop (PLapRec fn sv Bs D .ready none))
  K : W.heap[D]? = some (.deferred (some []))
  below : Below w0.heap.size w0 W
theorem PLap_abides (w0 : World) (fn : FuncId) (sv : Value) (Bs l D B : Nat) (hB : w0.heap.size ≤ B) : AbidesFrom B (PLApAt w0 fn sv Bs l D) := fun s W W' row h hg hrow => by
  have hrow' : ∀ r, row = some r → ∃ o : Obj, W.heap[r]? = some o ∧ o.isWalk = true := fun r e => (hrow r e).2
  obtain ⟨v, hv, hr, hn⟩ := h.box
  exact ⟨⟨v, (grownBy_keeps hg hrow' hv rfl).trans hv, ownsRow_abides_a hr hg hrow', hn⟩, (grownBy_keeps hg hrow' h.L rfl).trans h.L, (grownBy_keeps hg hrow' h.K rfl).trans h.K,
    h.below.grown hg h.below.size (fun k e => Nat.le_trans hB (hrow k e).1)⟩
set_option maxRecDepth 100000 in
set_option maxHeartbeats 4000000 in
theorem PLapYield (F : Fence) (m : Nat) (w0 : World) (fn : FuncId) (hfn : F.fn fn) (sv : Value) (Bs l D : Nat) (hBl : Bs ≠ l) (hDl : D ≠ l) (hDB : D ≠ Bs) (h0B : w0.heap.size ≤ Bs) (h0l : w0.heap.size ≤ l)
    (N : Nat) (hN : N ≤ maxLen) (hNb : N * 16 ≤ 140737488355328) (ss : List SPl) (x : SPl) (W : World) (h : PLApAt w0 fn sv Bs l D ss W) (hlen : ss.length < N) :
    YieldAt F m Tryz.prog l #[lv x] W fun e W' => e = .returned (.bool true) ∧ PLApAt w0 fn sv Bs l D (ss ++ [x]) W' ∧ KeepsWalks W W' := by
  obtain ⟨i0, hi, hz0, hz1, hz2⟩ := info_parts info69U
  obtain ⟨v, hv, hrow, _⟩ := h.box
  refine ⟨fn, #[.slice none 0 0, sv, .pointer (some ⟨Bs, 0, none⟩), undef, .slice none 0 0, undef, sv, lv x, undef, undef, undef, undef, undef], PLapAssign, PLapBody, by simpa [PLapRec] using run_yield (P := Tryz.prog) (args := #[lv x]) h.L rfl, roundIn_of_wpIn hfn ?_⟩
  have hl0 : l < W.heap.size := (Array.getElem?_eq_some_iff.1 h.L).1
  have hB0 : Bs < W.heap.size := (Array.getElem?_eq_some_iff.1 hv).1
  have hD0 : D < W.heap.size := (Array.getElem?_eq_some_iff.1 h.K).1
  obtain ⟨wa, hwa⟩ : ∃ wa, W.alloc (.cells (encL x).toArray 69) = wa := ⟨_, rfl⟩
  have hxa : wa.heap[W.heap.size]? = some (.cells (encL x).toArray 69 (0, 0)) := by rw [← hwa]; exact World.alloc_heap_new W _
  have hsa : wa.heap.size = W.heap.size + 1 := by rw [← hwa]; simp
  have holda : ∀ k, k < W.heap.size → wa.heap[k]? = W.heap[k]? := fun k hk => by rw [← hwa]; exact Below.heap_alloc _ _ k hk
  have hrowa : wa.ownsRow w0.heap.size 69 2 v ss.length (ss.flatMap encL) := by rw [← hwa]; exact hrow.alloc _
  have hka : KeepsWalks W wa := by rw [← hwa]; exact KeepsWalks.alloc _ _
  have hba : Below w0.heap.size w0 wa := by rw [← hwa]; exact h.below.alloc h.below.size _
  have hLa : wa.heap[l]? = some (.loop (PLapRec fn sv Bs D .ready none)) := (holda l hl0).trans h.L
  have hva := (holda Bs hB0).trans hv
  have hKa := (holda D hD0).trans h.K
  have hbr := run_beginRound (P := Tryz.prog) hLa rfl
  obtain ⟨wb, hW2⟩ : ∃ wb, wa.putObj l (.loop { PLapRec fn sv Bs D .ready none with state := .busy }) = wb := ⟨_, rfl⟩
  rw [hW2] at hbr
  have hg2 : wa.grownBy wb (some l) := by rw [← hW2]; exact grownBy_putObj_a _ _ _
  have hk2 : KeepsWalks wa wb := by rw [← hW2]; exact KeepsWalks.putObj _ hLa rfl
  have hvb : wb.heap[Bs]? = some (.cells #[v] 71 (0, 0)) := by rw [← hW2]; exact (World.putObj_heap_other hBl).trans hva
  have hKb : wb.heap[D]? = some (.deferred (some [])) := by rw [← hW2]; exact (World.putObj_heap_other hDl).trans hKa
  have hLb : wb.heap[l]? = some (.loop { PLapRec fn sv Bs D .ready none with state := .busy }) := by rw [← hW2]; exact World.putObj_heap_same (by omega)
  have hxb : wb.heap[W.heap.size]? = some (.cells (encL x).toArray 69 (0, 0)) := by rw [← hW2]; exact (World.putObj_heap_other (by omega)).trans hxa
  have hrowb : wb.ownsRow w0.heap.size 69 2 v ss.length (ss.flatMap encL) := hrowa.kept hg2 (ownsRow_ne_a hrowa hLa (fun cur e => by cases e))
  have hbb : Below w0.heap.size w0 wb := hba.grown hg2 hba.size (fun k e => by cases e; exact h0l)
  have hBlt : Bs < wb.heap.size := (Array.getElem?_eq_some_iff.1 hvb).1
  have hl2 : l < wb.heap.size := (Array.getElem?_eq_some_iff.1 hLb).1
  have hDlt : D < wb.heap.size := (Array.getElem?_eq_some_iff.1 hKb).1
  obtain ⟨hcb, hfb⟩ := cell_of_box_a hvb
  have hxc : ∀ j, wb.cell? ⟨W.heap.size, j, none⟩ = (encL x).toArray[j]? := fun j => by simp [World.cell?, hxb]
  have ne_of : ∀ {j : Nat} {o : Obj}, wb.heap[j]? = some o → (∀ cur, o ≠ .cells cur 69 (0, 0)) → some j ≠ v.ownBlock := fun hj hno => by
    rcases ownsRow_ne_a hrowb hj hno with e | e
    · rw [e]; simp
    · exact fun e' => e e'.symm
  have hxc0 : wb.cell? ⟨W.heap.size, 0, none⟩ = some (.int .i64 x.f0) := hxc 0
  have hxc1 : wb.cell? ⟨W.heap.size, 1, none⟩ = some (.int .i64 x.f1) := hxc 1
  clear hxc
  have HWA := Aside0.mk hwa
  clear hwa hW2 hsa holda
  unfold PLapAssign lv
  unfold encL at HWA
  gi_wp2_with gi_round_op_a
  rw [show (W.alloc (.cells #[.int .i64 x.f0, .int .i64 x.f1] 69)) = wa from HWA.out]
  refine ⟨_, hbr, ?_⟩
  unfold PLapBody
  gi_wp2_with (first
    | (gi_at_builtin; refine wpListIn_append_own _ rfl _ _ 71 rfl w0.heap.size 69 i0 _ 2 16 Tryz.underlying71 hi hz0 hz1 hz2 rfl (by decide) _ _ _ rfl (hrowb.alloc _) ⟨wb.heap.size, 0, none⟩ 1 1 (encL x) rfl rfl (World.news_of_block (World.alloc_heap_new wb _)) (by intro u hu; simp [encL] at hu; rcases hu with rfl | rfl <;> rfl) (by omega) (by omega) (by have := hbb.size; simp; omega) ?_; intro v' w3 hown' hg3 hnil3
       have hv3 : w3.heap[Bs]? = some (.cells #[v] 71 (0, 0)) := (hg3.block Bs (by simp; omega) (ne_of hvb (fun cur e => by cases e))).trans ((Below.heap_alloc _ _ Bs (by omega)).trans hvb)
       obtain ⟨hc3, hf3⟩ := cell_of_box_a hv3
       obtain ⟨g', cap', cur', rfl, hbase', hgb', hr1, hr2, hr3, hr4⟩ : ∃ g' cap' cur', v' = .slice (some ⟨g', 0, none⟩) (ss.length + 1) cap' ∧ w0.heap.size ≤ g' ∧ w3.heap[g']? = some (.cells cur' 69 (0, 0)) ∧ ss.length + 1 ≤ cap' ∧ cap' ≤ maxLen ∧ cur'.size = cap' * 2 ∧ cur'.toList.take ((ss.length + 1) * 2) = ss.flatMap encL ++ encL x := by
         rcases hown'.2 with ⟨_, h0⟩ | h'
         · exact absurd h0 (by omega)
         · exact h'
       go_frame)
    | gi_round_op_a)
  have hg3' : (wb.alloc (.cells (encL x).toArray 69)).grownBy w3 v.ownBlock := hg3
  have hL3 : w3.heap[l]? = some (.loop { PLapRec fn sv Bs D .ready none with state := .busy }) := (hg3'.block l (by simp; omega) (ne_of hLb (fun cur e => by cases e))).trans ((Below.heap_alloc _ _ l (by omega)).trans hLb)
  have hK3 : w3.heap[D]? = some (.deferred (some [])) := (hg3'.block D (by simp; omega) (ne_of hKb (fun cur e => by cases e))).trans ((Below.heap_alloc _ _ D (by omega)).trans hKb)
  obtain ⟨w4, hw4⟩ : ∃ w4, w3.setCell ⟨Bs, 0, none⟩ (.slice (some ⟨g', 0, none⟩) (ss.length + 1) cap') = w4 := ⟨_, rfl⟩
  rw [hw4]
  have hg4 : w3.grownBy w4 (some Bs) := by rw [← hw4]; exact grownBy_setCell0_a _ _ _
  have hv4 : w4.heap[Bs]? = some (.cells #[.slice (some ⟨g', 0, none⟩) (ss.length + 1) cap'] 71 (0, 0)) := by rw [← hw4]; exact heap_setCell_box_a _ hv3
  have hL4 : w4.heap[l]? = some (.loop { PLapRec fn sv Bs D .ready none with state := .busy }) := (hg4.block l (Array.getElem?_eq_some_iff.1 hL3).1 (fun e => hBl (by cases e; rfl))).trans hL3
  have hK4 : w4.heap[D]? = some (.deferred (some [])) := (hg4.block D (Array.getElem?_eq_some_iff.1 hK3).1 (fun e => hDB (by cases e; rfl))).trans hK3
  have hrow4 := hown'.kept hg4 (ownsRow_ne_a hown' hv3 (fun cur e => by cases e))
  have hl4 : l < w4.heap.size := (Array.getElem?_eq_some_iff.1 hL4).1
  have hb3 : Below w0.heap.size w0 w3 := (hbb.alloc hbb.size _).grown hg3' (by have := hbb.size; simp; omega) (fun k e => (hrowb.lt k e).1)
  have hb4 : Below w0.heap.size w0 w4 := hb3.grown hg4 hb3.size (fun k e => by cases e; exact h0B)
  have hk4 : KeepsWalks W w4 := (((hka.trans hk2).trans (KeepsWalks.alloc _ _)).trans (KeepsWalks.of_grownBy hg3' (ownsRow_not_walk_a (hrowb.alloc _)))).trans (by rw [← hw4]; exact KeepsWalks.setCell _ _ _)
  clear hw4
  refine ⟨_, _, run_endRound none hL4, rfl, ⟨⟨_, (World.putObj_heap_other hBl).trans hv4, ?_, by simp⟩, World.putObj_heap_same hl4, (World.putObj_heap_other hDl).trans hK4, hb4.grown (grownBy_putObj_a _ _ _) hb4.size (fun k e => by cases e; exact h0l)⟩, hk4.trans (KeepsWalks.putObj _ hL4 rfl)⟩
  have := hrow4.kept (grownBy_putObj_a w4 l (.loop { { PLapRec fn sv Bs D .ready none with state := .busy } with state := if (none : Option Code).isNone then .ready else .done, pending := none })) (ownsRow_ne_a hrow4 hL4 (fun cur e => by cases e))
  simpa [List.flatMap_append] using this
set_option maxRecDepth 100000 in
set_option maxHeartbeats 4000000 in
/-- slices.AppendSeq(nil, seq). -/
theorem PLappendSeq (F : Fence) (n : Nat) (h11 : F.fn 82) (hro : F.round = none) (hn : 2 ≤ n) (g : Nat) (lb : Array Value) (hFg : F.fn g) (eg : ∀ args w, (callFunc g args).run Tryz.prog w = .ok (.enter g args) w)
    (S : List SPl → Prop) (N : Nat) (hN : N ≤ maxLen) (hNb : N * 16 ≤ 140737488355328) (w : World) (hseq : SeqGives F (n - 1) Tryz.prog g lb lv S N w) :
    CallsIn F n Tryz.prog 82 #[.slice none 0 0, .func (.func g) #[] lb] w fun e w' => ∃ (v : Value) (ss : List SPl), e = .returned v ∧ S ss ∧ w'.ownsRow w.heap.size 69 2 v ss.length (ss.flatMap encL) ∧ (v = .slice none 0 0 ↔ ss = []) ∧ Below w.heap.size w w' := by
  have h1 : 1 ≤ n := by omega
  refine callsIn_of_wp_marks Tryz.func82 rfl h11 ?_ hro
  simp only [Tryz.ntmps82, List.size_toArray, List.length_cons, List.length_nil, Nat.reduceAdd, Nat.reduceSub, Array.replicate_succ, Array.replicate_zero, List.push_toArray, List.append_toArray, List.nil_append, List.cons_append]
  gi_wp2
  refine wpIn_rangeFunc ?_
  intro fn hfn
  rw [hro]
  obtain ⟨W0, hW0⟩ : ∃ W0, w.alloc (.cells #[.slice none 0 0] 71) = W0 := ⟨_, rfl⟩
  have hs0 : W0.heap.size = w.heap.size + 1 := by rw [← hW0]; simp
  have hv0 : W0.heap[w.heap.size]? = some (.cells #[.slice none 0 0] 71 (0, 0)) := by rw [← hW0]; exact World.alloc_heap_new w _
  have hb0 : Below w.heap.size w W0 := by rw [← hW0]; exact (Below.refl _ w).alloc (Nat.le_refl _) _
  rw [hW0]
  obtain ⟨W1, hW1⟩ : ∃ W1, (W0.alloc (.deferred (some []))).alloc (.loop (PLapRec fn (.func (.func g) #[] lb) w.heap.size W0.heap.size .ready none)) = W1 := ⟨_, rfl⟩
  have hold : ∀ k, k < W0.heap.size → W1.heap[k]? = W0.heap[k]? := fun k hk => by
    rw [← hW1]; exact (Below.heap_alloc _ _ k (by simp; omega)).trans (Below.heap_alloc _ _ k hk)
  have hb1 : Below w.heap.size w W1 := by rw [← hW1]; exact (hb0.alloc hb0.size _).alloc (by have := hb0.size; simp; omega) _
  have hs1 : W1.heap.size = W0.heap.size + 2 := by rw [← hW1]; simp
  have hM : PLApAt w fn (.func (.func g) #[] lb) w.heap.size (W0.heap.size + 1) W0.heap.size [] W1 :=
    ⟨⟨_, (hold w.heap.size (by omega)).trans hv0, ⟨rfl, .inl ⟨rfl, rfl⟩⟩, by simp⟩,
     by rw [← hW1]; have := World.alloc_heap_new (W0.alloc (.deferred (some []))) (.loop (PLapRec fn (.func (.func g) #[] lb) w.heap.size W0.heap.size .ready none)); rwa [World.size_alloc] at this,
     by rw [← hW1]; exact (Below.heap_alloc _ _ _ (by simp)).trans (World.alloc_heap_new W0 _), hb1⟩
  refine ⟨W0.heap.size + 1, [{ target := .collected W0.heap.size, args := #[] }], W1, { target := .fn (.func g) lb, args := #[.func (.yield (W0.heap.size + 1)) #[] #[]] }, W1, g,
    #[.func (.yield (W0.heap.size + 1)) #[] #[]] ++ lb, W1, ?_, ?_, ?_, ?_, fun _ => h1, ?_⟩
  · rw [← hW1]; exact run_enterLoop_outer _ _ _ _ _
  · simp [resolve, go_sem]
  · intro f' hf'; simp [Target.leads] at hf'; subst hf'; exact hFg
  · simp [invoke, go_sem, eg]
  · refine (hseq (W0.heap.size + 1) (PLApAt w fn (.func (.func g) #[] lb) w.heap.size (W0.heap.size + 1) W0.heap.size) W1 hb1 (PLap_abides _ _ _ _ _ _ _ hb1.size)
      (fun pre x W hJ hl => PLapYield F (n - 1 - 1) w fn hfn _ w.heap.size (W0.heap.size + 1) W0.heap.size (by omega) (by omega) (by omega) (Nat.le_refl _) (by omega) N hN hNb pre x W hJ hl) hM).mono ?_
    rintro e W2 ⟨⟨v0, rfl⟩, ss, hS, h2⟩
    obtain ⟨v, hv, hrow, hnil⟩ := h2.box
    have hend := run_endLoop (P := Tryz.prog) h2.L (by simp [PLapRec])
    obtain ⟨W3, hW3⟩ : ∃ W3, W2.putObj (W0.heap.size + 1) (.loop { PLapRec fn (.func (.func g) #[] lb) w.heap.size W0.heap.size .ready none with state := .exhausted }) = W3 := ⟨_, rfl⟩
    rw [hW3] at hend
    have hg3 : W2.grownBy W3 (some (W0.heap.size + 1)) := by rw [← hW3]; exact grownBy_putObj_a _ _ _
    have hv3 : W3.heap[w.heap.size]? = some (.cells #[v] 71 (0, 0)) := by rw [← hW3]; exact (World.putObj_heap_other (by omega)).trans hv
    have hK3 : W3.heap[W0.heap.size]? = some (.deferred (some [])) := by rw [← hW3]; exact (World.putObj_heap_other (by omega)).trans h2.K
    have hrow3 := hrow.kept hg3 (ownsRow_ne_a hrow h2.L (fun cur e => by cases e))
    have hb3 : Below w.heap.size w W3 := h2.below.grown hg3 h2.below.size (fun k e => by cases e; omega)
    obtain ⟨hc3, hf3⟩ := cell_of_box_a hv3
    clear hW3
    refine ⟨none, W3, hend, ?_⟩
    gi_wp2
    rw [← hs0]
    refine ⟨by simp, .inl ⟨_, _, rfl, run_takeDeferred hK3, ?_⟩⟩
    exact ⟨_, results_tmp rfl _ _ _, v, ss, rfl, hS, hrow3.kept (grownBy_putObj_a _ _ _) (ownsRow_ne_a hrow3 hK3 (fun cur e => by cases e)), hnil, hb3.grown (grownBy_putObj_a _ _ _) hb3.size (fun k e => by cases e; omega)⟩
set_option maxHeartbeats 1000000 in
/-- slices.Collect(maps.Keys(m)). -/
theorem PLcollect (F : Fence) (n : Nat) (h8 : F.fn 65) (h11 : F.fn 82) (hro : F.round = none) (hn : 3 ≤ n) (g : Nat) (lb : Array Value) (hFg : F.fn g) (eg : ∀ args w, (callFunc g args).run Tryz.prog w = .ok (.enter g args) w)
    (S : List SPl → Prop) (N : Nat) (hN : N ≤ maxLen) (hNb : N * 16 ≤ 140737488355328) (w : World) (hseq : SeqGives F (n - 1 - 1) Tryz.prog g lb lv S N w) :
    CallsIn F n Tryz.prog 65 #[.func (.func g) #[] lb] w fun e w' => ∃ (v : Value) (ss : List SPl), e = .returned v ∧ S ss ∧ w'.ownsRow w.heap.size 69 2 v ss.length (ss.flatMap encL) ∧ (v = .slice none 0 0 ↔ ss = []) ∧ Below w.heap.size w w' := by
  have h1 : 1 ≤ n := by omega
  refine callsIn_of_wp Tryz.func65 rfl h8 ?_ hro
  simp only [Tryz.ntmps65, Tryz.f65, List.size_toArray, List.length_cons, List.length_nil, Nat.reduceAdd, Nat.reduceSub, Array.replicate_succ, Array.replicate_zero, List.push_toArray, List.append_toArray, List.nil_append, List.cons_append]
  gi_wp2_with fail
  refine (PLappendSeq F (n - 1) h11 hro (by omega) g lb hFg eg S N hN hNb _ hseq).mono ?_
  rintro e w' ⟨v, ss, rfl, hS, hrow, hnil, hb⟩
  gi_wp2
  go_ret
  exact ⟨v, ss, rfl, hS, hrow, hnil, hb⟩
end Go.Proofs.YtldlenjfpjihdaaGreat.PS
end
section
namespace Go.Proofs
open Go.Shelf
def Tryz.sortR_ren : Go.Shelf.Ren := ⟨fun | 6 => 72 | 15 => 84 | 14 => 85 | 28 => 99 | 29 => 100 | 20 => 101 | 21 => 102 | 22 => 103 | 23 => 104 | 24 => 105 | 25 => 106 | 26 => 107 | 27 => 108 | 46 => 117 | 47 => 113 | 48 => 114 | 49 => 118 | 50 => 119 | 57 => 129 | n => n, fun | 22 => 70 | 24 => 44 | 25 => 101 | 3 => 3 | 39 => 112 | 0 => 0 | 53 => 125 | 55 => 127 | 4 => 4 | 46 => 118 | 45 => 117 | 50 => 122 | 5 => 5 | 9 => 9 | 66 => 135 | 70 => 139 | 76 => 148 | 77 => 149 | n => n, fun | n => n⟩
theorem Tryz.sortR : Go.Proofs.SlLaysF0.n6 Tryz.prog Tryz.sortR_ren := {
  mixed := by kernel_rfl
  f6 := ⟨Tryz.f72.name, by decide, Tryz.func72.trans (congrArg some (by kernel_rfl))⟩
  f14 := ⟨Tryz.f85.name, by decide, Tryz.func85.trans (congrArg some (by kernel_rfl))⟩
  f15 := Tryz.func84.trans (congrArg some (by kernel_rfl))
  f20 := ⟨Tryz.f101.name, by decide, Tryz.func101.trans (congrArg some (by kernel_rfl))⟩
  f21 := ⟨Tryz.f102.name, by decide, Tryz.func102.trans (congrArg some (by kernel_rfl))⟩
  f22 := ⟨Tryz.f103.name, by decide, Tryz.func103.trans (congrArg some (by kernel_rfl))⟩
  f23 := ⟨Tryz.f104.name, by decide, Tryz.func104.trans (congrArg some (by kernel_rfl))⟩
  f24 := ⟨Tryz.f105.name, by decide, Tryz.func105.trans (congrArg some (by kernel_rfl))⟩
  f25 := ⟨Tryz.f106.name, by decide, Tryz.func106.trans (congrArg some (by kernel_rfl))⟩
  f26 := ⟨Tryz.f107.name, by decide, Tryz.func107.trans (congrArg some (by kernel_rfl))⟩
  f27 := ⟨Tryz.f108.name, by decide, Tryz.func108.trans (congrArg some (by kernel_rfl))⟩
  f28 := Tryz.func99.trans (congrArg some (by kernel_rfl))
  f29 := Tryz.func100.trans (congrArg some (by kernel_rfl))
  f46 := ⟨Tryz.f117.name, by decide, Tryz.func117.trans (congrArg some (by kernel_rfl))⟩
  f47 := Tryz.func113.trans (congrArg some (by kernel_rfl))
  f48 := Tryz.func114.trans (congrArg some (by kernel_rfl))
  f49 := ⟨Tryz.f118.name, by decide, Tryz.func118.trans (congrArg some (by kernel_rfl))⟩
  f50 := ⟨Tryz.f119.name, by decide, Tryz.func119.trans (congrArg some (by kernel_rfl))⟩
  f57 := ⟨Tryz.f129.name, by decide, Tryz.func129.trans (congrArg some (by kernel_rfl))⟩
  t0 := Tryz.underlying0
  a0 := Tryz.isAgg0
  z0 := Tryz.sizeOf0
  v0 := Tryz.zeroValue0
  t3 := Tryz.underlying3
  a3 := Tryz.isAgg3
  z3 := Tryz.sizeOf3
  v3 := Tryz.zeroValue3
  t4 := Tryz.underlying4
  a4 := Tryz.isAgg4
  z4 := Tryz.sizeOf4
  v4 := Tryz.zeroValue4
  t5 := Tryz.underlying5
  a5 := Tryz.isAgg5
  z5 := Tryz.sizeOf5
  v5 := Tryz.zeroValue5
  t9 := Tryz.underlying9
  a9 := Tryz.isAgg9
  z9 := Tryz.sizeOf9
  v9 := Tryz.zeroValue9
  t22 := Tryz.underlying70
  a22 := Tryz.isAgg70
  z22 := Tryz.sizeOf70
  v22 := Tryz.zeroValue70
  t25 := Tryz.underlying101
  a25 := Tryz.isAgg101
  z25 := Tryz.sizeOf101
  v25 := Tryz.zeroValue101
  t39 := Tryz.underlying112
  a39 := Tryz.isAgg112
  z39 := Tryz.sizeOf112
  v39 := Tryz.zeroValue112
  t45 := Tryz.underlying117
  a45 := Tryz.isAgg117
  z45 := Tryz.sizeOf117
  v45 := Tryz.zeroValue117
  t46 := Tryz.underlying118
  a46 := Tryz.isAgg118
  z46 := Tryz.sizeOf118
  v46 := Tryz.zeroValue118
  t50 := Tryz.underlying122
  a50 := Tryz.isAgg122
  z50 := Tryz.sizeOf122
  v50 := Tryz.zeroValue122
  t53 := Tryz.underlying125
  a53 := Tryz.isAgg125
  z53 := Tryz.sizeOf125
  v53 := Tryz.zeroValue125
  t55 := Tryz.underlying127
  a55 := Tryz.isAgg127
  z55 := Tryz.sizeOf127
  v55 := Tryz.zeroValue127
  t66 := Tryz.underlying135
  a66 := Tryz.isAgg135
  z66 := Tryz.sizeOf135
  v66 := Tryz.zeroValue135
  t70 := Tryz.underlying139
  a70 := Tryz.isAgg139
  z70 := Tryz.sizeOf139
  v70 := Tryz.zeroValue139
  t76 := Tryz.underlying148
  a76 := Tryz.isAgg148
  z76 := Tryz.sizeOf148
  v76 := Tryz.zeroValue148
  t77 := Tryz.underlying149
  a77 := Tryz.isAgg149
  z77 := Tryz.sizeOf149
  v77 := Tryz.zeroValue149 }
def Tryz.sortP_ren : Go.Shelf.Ren := ⟨fun | 6 => 88 | 15 => 84 | 14 => 111 | 28 => 99 | 29 => 100 | 20 => 120 | 21 => 121 | 22 => 122 | 23 => 123 | 24 => 124 | 25 => 125 | 26 => 126 | 27 => 127 | 46 => 130 | 47 => 113 | 48 => 114 | 49 => 131 | 50 => 132 | 57 => 133 | n => n, fun | 22 => 22 | 24 => 37 | 25 => 92 | 3 => 3 | 39 => 112 | 0 => 0 | 53 => 125 | 55 => 127 | 4 => 4 | 46 => 118 | 45 => 117 | 50 => 122 | 5 => 5 | 9 => 9 | 66 => 135 | 70 => 139 | 76 => 148 | 77 => 149 | n => n, fun | n => n⟩
theorem Tryz.sortP : Go.Proofs.SlLaysF0.n6 Tryz.prog Tryz.sortP_ren := {
  mixed := by kernel_rfl
  f6 := ⟨Tryz.f88.name, by decide, Tryz.func88.trans (congrArg some (by kernel_rfl))⟩
  f14 := ⟨Tryz.f111.name, by decide, Tryz.func111.trans (congrArg some (by kernel_rfl))⟩
  f15 := Tryz.func84.trans (congrArg some (by kernel_rfl))
  f20 := ⟨Tryz.f120.name, by decide, Tryz.func120.trans (congrArg some (by kernel_rfl))⟩
  f21 := ⟨Tryz.f121.name, by decide, Tryz.func121.trans (congrArg some (by kernel_rfl))⟩
  f22 := ⟨Tryz.f122.name, by decide, Tryz.func122.trans (congrArg some (by kernel_rfl))⟩
  f23 := ⟨Tryz.f123.name, by decide, Tryz.func123.trans (congrArg some (by kernel_rfl))⟩
  f24 := ⟨Tryz.f124.name, by decide, Tryz.func124.trans (congrArg some (by kernel_rfl))⟩
  f25 := ⟨Tryz.f125.name, by decide, Tryz.func125.trans (congrArg some (by kernel_rfl))⟩
  f26 := ⟨Tryz.f126.name, by decide, Tryz.func126.trans (congrArg some (by kernel_rfl))⟩
  f27 := ⟨Tryz.f127.name, by decide, Tryz.func127.trans (congrArg some (by kernel_rfl))⟩
  f28 := Tryz.func99.trans (congrArg some (by kernel_rfl))
  f29 := Tryz.func100.trans (congrArg some (by kernel_rfl))
  f46 := ⟨Tryz.f130.name, by decide, Tryz.func130.trans (congrArg some (by kernel_rfl))⟩
  f47 := Tryz.func113.trans (congrArg some (by kernel_rfl))
  f48 := Tryz.func114.trans (congrArg some (by kernel_rfl))
  f49 := ⟨Tryz.f131.name, by decide, Tryz.func131.trans (congrArg some (by kernel_rfl))⟩
  f50 := ⟨Tryz.f132.name, by decide, Tryz.func132.trans (congrArg some (by kernel_rfl))⟩
  f57 := ⟨Tryz.f133.name, by decide, Tryz.func133.trans (congrArg some (by kernel_rfl))⟩
  t0 := Tryz.underlying0
  a0 := Tryz.isAgg0
  z0 := Tryz.sizeOf0
  v0 := Tryz.zeroValue0
  t3 := Tryz.underlying3
  a3 := Tryz.isAgg3
  z3 := Tryz.sizeOf3
  v3 := Tryz.zeroValue3
  t4 := Tryz.underlying4
  a4 := Tryz.isAgg4
  z4 := Tryz.sizeOf4
  v4 := Tryz.zeroValue4
  t5 := Tryz.underlying5
  a5 := Tryz.isAgg5
  z5 := Tryz.sizeOf5
  v5 := Tryz.zeroValue5
  t9 := Tryz.underlying9
  a9 := Tryz.isAgg9
  z9 := Tryz.sizeOf9
  v9 := Tryz.zeroValue9
  t22 := Tryz.underlying22
  a22 := Tryz.isAgg22
  z22 := Tryz.sizeOf22
  v22 := Tryz.zeroValue22
  t25 := Tryz.underlying92
  a25 := Tryz.isAgg92
  z25 := Tryz.sizeOf92
  v25 := Tryz.zeroValue92
  t39 := Tryz.underlying112
  a39 := Tryz.isAgg112
  z39 := Tryz.sizeOf112
  v39 := Tryz.zeroValue112
  t45 := Tryz.underlying117
  a45 := Tryz.isAgg117
  z45 := Tryz.sizeOf117
  v45 := Tryz.zeroValue117
  t46 := Tryz.underlying118
  a46 := Tryz.isAgg118
  z46 := Tryz.sizeOf118
  v46 := Tryz.zeroValue118
  t50 := Tryz.underlying122
  a50 := Tryz.isAgg122
  z50 := Tryz.sizeOf122
  v50 := Tryz.zeroValue122
  t53 := Tryz.underlying125
  a53 := Tryz.isAgg125
  z53 := Tryz.sizeOf125
  v53 := Tryz.zeroValue125
  t55 := Tryz.underlying127
  a55 := Tryz.isAgg127
  z55 := Tryz.sizeOf127
  v55 := Tryz.zeroValue127
  t66 := Tryz.underlying135
  a66 := Tryz.isAgg135
  z66 := Tryz.sizeOf135
  v66 := Tryz.zeroValue135
  t70 := Tryz.underlying139
  a70 := Tryz.isAgg139
  z70 := Tryz.sizeOf139
  v70 := Tryz.zeroValue139
  t76 := Tryz.underlying148
  a76 := Tryz.isAgg148
  z76 := Tryz.sizeOf148
  v76 := Tryz.zeroValue148
  t77 := Tryz.underlying149
  a77 := Tryz.isAgg149
  z77 := Tryz.sizeOf149
  v77 := Tryz.zeroValue149 }
def Tryz.sortL_ren : Go.Shelf.Ren := ⟨fun | 6 => 66 | 15 => 84 | 14 => 83 | 28 => 99 | 29 => 100 | 20 => 91 | 21 => 92 | 22 => 93 | 23 => 94 | 24 => 95 | 25 => 96 | 26 => 97 | 27 => 98 | 46 => 112 | 47 => 113 | 48 => 114 | 49 => 115 | 50 => 116 | 57 => 128 | n => n, fun | 22 => 71 | 24 => 69 | 25 => 78 | 3 => 3 | 39 => 112 | 0 => 0 | 53 => 125 | 55 => 127 | 4 => 4 | 46 => 118 | 45 => 117 | 50 => 122 | 5 => 5 | 9 => 9 | 66 => 135 | 70 => 139 | 76 => 148 | 77 => 149 | n => n, fun | n => n⟩
theorem Tryz.sortL : Go.Proofs.SlLaysF0.n6 Tryz.prog Tryz.sortL_ren := {
  mixed := by kernel_rfl
  f6 := ⟨Tryz.f66.name, by decide, Tryz.func66.trans (congrArg some (by kernel_rfl))⟩
  f14 := ⟨Tryz.f83.name, by decide, Tryz.func83.trans (congrArg some (by kernel_rfl))⟩
  f15 := Tryz.func84.trans (congrArg some (by kernel_rfl))
  f20 := ⟨Tryz.f91.name, by decide, Tryz.func91.trans (congrArg some (by kernel_rfl))⟩
  f21 := ⟨Tryz.f92.name, by decide, Tryz.func92.trans (congrArg some (by kernel_rfl))⟩
  f22 := ⟨Tryz.f93.name, by decide, Tryz.func93.trans (congrArg some (by kernel_rfl))⟩
  f23 := ⟨Tryz.f94.name, by decide, Tryz.func94.trans (congrArg some (by kernel_rfl))⟩
  f24 := ⟨Tryz.f95.name, by decide, Tryz.func95.trans (congrArg some (by kernel_rfl))⟩
  f25 := ⟨Tryz.f96.name, by decide, Tryz.func96.trans (congrArg some (by kernel_rfl))⟩
  f26 := ⟨Tryz.f97.name, by decide, Tryz.func97.trans (congrArg some (by kernel_rfl))⟩
  f27 := ⟨Tryz.f98.name, by decide, Tryz.func98.trans (congrArg some (by kernel_rfl))⟩
  f28 := Tryz.func99.trans (congrArg some (by kernel_rfl))
  f29 := Tryz.func100.trans (congrArg some (by kernel_rfl))
  f46 := ⟨Tryz.f112.name, by decide, Tryz.func112.trans (congrArg some (by kernel_rfl))⟩
  f47 := Tryz.func113.trans (congrArg some (by kernel_rfl))
  f48 := Tryz.func114.trans (congrArg some (by kernel_rfl))
  f49 := ⟨Tryz.f115.name, by decide, Tryz.func115.trans (congrArg some (by kernel_rfl))⟩
  f50 := ⟨Tryz.f116.name, by decide, Tryz.func116.trans (congrArg some (by kernel_rfl))⟩
  f57 := ⟨Tryz.f128.name, by decide, Tryz.func128.trans (congrArg some (by kernel_rfl))⟩
  t0 := Tryz.underlying0
  a0 := Tryz.isAgg0
  z0 := Tryz.sizeOf0
  v0 := Tryz.zeroValue0
  t3 := Tryz.underlying3
  a3 := Tryz.isAgg3
  z3 := Tryz.sizeOf3
  v3 := Tryz.zeroValue3
  t4 := Tryz.underlying4
  a4 := Tryz.isAgg4
  z4 := Tryz.sizeOf4
  v4 := Tryz.zeroValue4
  t5 := Tryz.underlying5
  a5 := Tryz.isAgg5
  z5 := Tryz.sizeOf5
  v5 := Tryz.zeroValue5
  t9 := Tryz.underlying9
  a9 := Tryz.isAgg9
  z9 := Tryz.sizeOf9
  v9 := Tryz.zeroValue9
  t22 := Tryz.underlying71
  a22 := Tryz.isAgg71
  z22 := Tryz.sizeOf71
  v22 := Tryz.zeroValue71
  t25 := Tryz.underlying78
  a25 := Tryz.isAgg78
  z25 := Tryz.sizeOf78
  v25 := Tryz.zeroValue78
  t39 := Tryz.underlying112
  a39 := Tryz.isAgg112
  z39 := Tryz.sizeOf112
  v39 := Tryz.zeroValue112
  t45 := Tryz.underlying117
  a45 := Tryz.isAgg117
  z45 := Tryz.sizeOf117
  v45 := Tryz.zeroValue117
  t46 := Tryz.underlying118
  a46 := Tryz.isAgg118
  z46 := Tryz.sizeOf118
  v46 := Tryz.zeroValue118
  t50 := Tryz.underlying122
  a50 := Tryz.isAgg122
  z50 := Tryz.sizeOf122
  v50 := Tryz.zeroValue122
  t53 := Tryz.underlying125
  a53 := Tryz.isAgg125
  z53 := Tryz.sizeOf125
  v53 := Tryz.zeroValue125
  t55 := Tryz.underlying127
  a55 := Tryz.isAgg127
  z55 := Tryz.sizeOf127
  v55 := Tryz.zeroValue127
  t66 := Tryz.underlying135
  a66 := Tryz.isAgg135
  z66 := Tryz.sizeOf135
  v66 := Tryz.zeroValue135
  t70 := Tryz.underlying139
  a70 := Tryz.isAgg139
  z70 := Tryz.sizeOf139
  v70 := Tryz.zeroValue139
  t76 := Tryz.underlying148
  a76 := Tryz.isAgg148
  z76 := Tryz.sizeOf148
  v76 := Tryz.zeroValue148
  t77 := Tryz.underlying149
  a77 := Tryz.isAgg149
  z77 := Tryz.sizeOf149
  v77 := Tryz.zeroValue149 }
open Go.RowKit Go.Lib Go.Sort in
theorem Tryz.sortRng {α : Type} [Inhabited α] (enc : α → List Value) (hk : ∀ x, (enc x).length = 3) (h1 : ∀ x, ∀ v ∈ enc x, v.oneCell' = true) (cf : α → α → Int) (hO : SWO (ltOf cf)) (g : Nat) (cb : Array Value) (blk off cap : Nat) (d : Array α) (w : World)
    (eg : ∀ args w, (callFunc g args).run Tryz.prog w = .ok (.enter g args) w) (hcmp : CmpLays Tryz.prog g cb enc 3 cf blk off d.size w) (hH : HoldsK enc 3 w blk off d) (hblk : blk < w.heap.size) (hsz : d.size < 4611686018427387904) :
    Calls Tryz.prog 72 #[.slice (some ⟨blk, off, none⟩) d.size cap, .func (.func g) #[] cb] w fun e w' =>
      e = .returned (.tuple #[]) ∧ ∃ d' n os, PermIn 0 d.size d d' ∧ SortedIn (ltOf cf) 0 d.size d' ∧ w' = sortWorldK enc 3 w blk off n d' os := AnyQ.slices_SortFunc Tryz.sortR 3 Tryz.isAgg44 Tryz.sizeOf44 enc hk h1 cf hO g cb blk off cap d w eg hcmp hH hblk hsz
end Go.Proofs
end
section
namespace Go.Proofs.YtldlenjfpjihdaaGreat.PS
open Go Go.RowKit Go.Proofs Go.Maps Go.Sort Go.Shelf Go.Proofs.YtldlenjfpjihdaaGreatW.PrintWords
set_option linter.unusedVariables false
set_option linter.unusedSimpArgs false
def PPzero : S37 := zP
def ltL (a b : SPl) : Prop := a.f0 < b.f0 ∨ (a.f0 = b.f0 ∧ a.f1 < b.f1)
theorem ltL_irrefl (a : SPl) : ¬ ltL a a := by unfold ltL; omega
theorem ltL_trans {a b c : SPl} (h1 : ltL a b) (h2 : ltL b c) : ltL a c := by unfold ltL at *; omega
theorem ltL_tri (a b : SPl) : ltL a b ∨ a = b ∨ ltL b a := by
  by_cases h : a.f0 = b.f0 ∧ a.f1 = b.f1
  · right; left; cases a; cases b; simp_all
  · unfold ltL; omega
theorem cmpL_lt (a b : SPl) : cmpL a b < 0 ↔ ltL a b := by
  unfold cmpL ltL
  repeat' split
  all_goals omega
def PLzero : SPl := ⟨0, 0⟩
theorem PPswo : SWO (ltOf cmpP) := by
  have e : ∀ x y, ltOf cmpP x y = true ↔ ltP x y := fun x y => by unfold ltOf; rw [decide_eq_true_iff]; exact cmpP_lt x y
  have e' : ∀ x y, ltOf cmpP x y = false ↔ ¬ ltP x y := fun x y => by rw [← e, Bool.not_eq_true]
  refine ⟨fun x => (e' x x).2 (ltP_irrefl x), fun x y z h1 h2 => (e x z).2 (ltP_trans ((e x y).1 h1) ((e y z).1 h2)), fun x y z h1 h2 => (e' x z).2 fun h => ?_⟩
  rcases ltP_tri y x with h3 | rfl | h3
  · exact (e' y z).1 h2 (ltP_trans h3 h)
  · exact (e' _ _).1 h2 h
  · exact (e' x y).1 h1 h3
instance PPinh : Inhabited S37 := ⟨PPzero⟩
set_option maxRecDepth 100000 in
theorem PPsort {base : Nat} {v : Value} {xs : List S37} {w : World} (h : OwnG enc37 3 37 w base v xs) (hl : xs.length < 4611686018427387904) :
    Calls Tryz.prog 88 #[v, .func (.func 64) #[] #[]] w fun e w' => e = .returned (.tuple #[]) ∧ ∃ ys, ys.Perm xs ∧ ys.Pairwise (fun a b => ltOf cmpP b a = false) ∧ OwnG enc37 3 37 w' base v ys ∧ Below base w w' :=
  sortG (enc := enc37) (C := 3) Tryz.sortP (fun _ => rfl) (by decide) Tryz.isAgg37 Tryz.sizeOf37 (fun x u hu => by simp only [enc37, List.mem_cons, List.not_mem_nil, or_false] at hu; rcases hu with rfl | rfl | rfl <;> rfl) cmpP PPswo 64 (enters_of Tryz.func64 (by kernel_rfl) rfl) (fun W x y => before_gr x y W) h hl
theorem OwnG_lower {α : Type} {enc : α → List Value} {C K base base' : Nat} {w : World} {v : Value} {xs : List α} (h : OwnG enc C K w base v xs) (hb : base' ≤ base) : OwnG enc C K w base' v xs := by
  rcases h with h | ⟨g, cap, cur, e, h1, h2⟩
  · exact .inl h
  · exact .inr ⟨g, cap, cur, e, Nat.le_trans hb h1, h2⟩
theorem PPstrict {ys : List S37} (hn : ys.Nodup) (hp : ys.Pairwise (fun a b => ltOf cmpP b a = false)) : ys.Pairwise ltP := by
  have h := hp.and hn
  refine h.imp ?_
  rintro a b ⟨h1, h2⟩
  have h3 : ¬ ltP b a := fun h => by have := (cmpP_lt b a).2 h; simp [ltOf, this] at h1
  rcases ltP_tri a b with h | h | h
  · exact h
  · exact absurd h h2
  · exact absurd h h3
set_option maxHeartbeats 4000000 in
/-- slices.SortedFunc(maps.Keys(m), cmp). -/
theorem PPsorted {H : Type} (m nn : Nat) (D : DataW H) {R : Value → Option (DataW H × List MemPlace)} (L : List S37) (w : World) (hown : w.ownsMap Tryz.prog 37 R m nn D) (hh : ∀ x, wfP x → (Maps.has D (pk x) = true ↔ x ∈ L)) (hL : ∀ x ∈ L, wfP x) (hmax : nn * 32 ≤ 140737488355328) :
    Calls Tryz.prog 75 #[.func (.func 89) #[] #[.pointer (some ⟨w.heap.size, 0, none⟩)], .func (.func 64) #[] #[]] (w.alloc (.cells #[.map (some m)] 59)) fun e w' => ∃ (v : Value) (r : List S37), e = .returned v ∧ r.Pairwise ltP ∧ (∀ z, z ∈ r ↔ z ∈ L) ∧ r.length ≤ nn ∧ OwnG enc37 3 37 w' w.heap.size v r ∧ Below w.heap.size w w' := by
  have hbl := hown.lt
  have hsz : Maps.size D ≤ nn := hown.size_le
  have hseq := PPgives Fence.wide 3 trivial rfl (by omega) w.heap.size m nn D (w.alloc (.cells #[.map (some m)] 59)) (by simp) (by simp) (by
      obtain ⟨es, clock, hb, Ft, hs, hD⟩ := hown
      exact ⟨es, clock, (Below.heap_alloc _ _ m hbl).trans hb, Ft, hs, hD⟩)
  have cS := (callsIn_wide (n := 5)).1 (PPcollect Fence.wide 5 trivial trivial rfl (by omega) 89 #[.pointer (some ⟨w.heap.size, 0, none⟩)] trivial (enters_of Tryz.func89 (by kernel_rfl) rfl) _ _ (by simp only [maxLen]; omega) (by omega) _ hseq)
  have HS := Aside0.mk cS
  have HH := Aside0.mk hh
  have HL := Aside0.mk hL
  clear hseq cS hh hL hown
  go_enter Tryz.func75, Tryz.ntmps75
  go_wp2_with fail
  refine HS.out.mono ?_
  rintro e w1 ⟨v, ss, rfl, ⟨hlen, hnd, hco⟩, hrow, hnil, hb1⟩
  have HO := Aside0.mk (OwnG.of_own (enc := enc37) (C := 3) (fun _ => rfl) hrow)
  have HB1 := Aside0.mk hb1
  have HN := Aside0.mk hnd
  have HC := Aside0.mk hco
  clear hrow hnil hb1 hnd hco
  have hl : ss.length < 4611686018427387904 := by omega
  go_wp2_with (go_at_call 88; refine (PPsort HO.out hl).mono ?_; rintro e w2 ⟨rfl, ys, hp, hs, ho2, hb2⟩; have HO2 := Aside0.mk ho2; have HB2 := Aside0.mk hb2; have HP := Aside0.mk hp; have HSo := Aside0.mk hs; clear ho2 hb2 hp hs)
  go_ret
  have hz : (w.alloc (.cells #[.map (some m)] 59)).heap.size = w.heap.size + 1 := by simp
  refine ⟨v, ys, rfl, PPstrict (HP.out.nodup_iff.2 HN.out) HSo.out, fun z => ?_, by rw [HP.out.length_eq]; omega, OwnG_lower HO2.out (by rw [hz]; omega), ?_⟩
  · rw [HP.out.mem_iff, HC.out z]
    constructor
    · rintro ⟨h1, h2, _⟩
      exact (HH.out z h1).1 h2
    · intro h
      exact ⟨HL.out z h, (HH.out z (HL.out z h)).2 h, trivial⟩
  · refine ((Below.refl _ w).alloc (Nat.le_refl _) (.cells #[.map (some m)] 59)).trans ?_
    have hb := Below.trans HB1.out HB2.out
    exact hb.mono (by rw [hz]; omega)
theorem PLswo : SWO (ltOf cmpL) := by
  have e : ∀ x y, ltOf cmpL x y = true ↔ ltL x y := fun x y => by unfold ltOf; rw [decide_eq_true_iff]; exact cmpL_lt x y
  have e' : ∀ x y, ltOf cmpL x y = false ↔ ¬ ltL x y := fun x y => by rw [← e, Bool.not_eq_true]
  refine ⟨fun x => (e' x x).2 (ltL_irrefl x), fun x y z h1 h2 => (e x z).2 (ltL_trans ((e x y).1 h1) ((e y z).1 h2)), fun x y z h1 h2 => (e' x z).2 fun h => ?_⟩
  rcases ltL_tri y x with h3 | rfl | h3
  · exact (e' y z).1 h2 (ltL_trans h3 h)
  · exact (e' _ _).1 h2 h
  · exact (e' x y).1 h1 h3
instance PLinh : Inhabited SPl := ⟨PLzero⟩
set_option maxRecDepth 100000 in
theorem PLsort {base : Nat} {v : Value} {xs : List SPl} {w : World} (h : OwnG encL 2 69 w base v xs) (hl : xs.length < 4611686018427387904) :
    Calls Tryz.prog 66 #[v, .func (.func 48) #[] #[]] w fun e w' => e = .returned (.tuple #[]) ∧ ∃ ys, ys.Perm xs ∧ ys.Pairwise (fun a b => ltOf cmpL b a = false) ∧ OwnG encL 2 69 w' base v ys ∧ Below base w w' :=
  sortG (enc := encL) (C := 2) Tryz.sortL (fun _ => rfl) (by decide) Tryz.isAgg69 Tryz.sizeOf69 (fun x u hu => by simp only [encL, List.mem_cons, List.not_mem_nil, or_false] at hu; rcases hu with rfl | rfl <;> rfl) cmpL PLswo 48 (enters_of Tryz.func48 (by kernel_rfl) rfl) (fun W x y => place_gr x y W) h hl
theorem PLstrict {ys : List SPl} (hn : ys.Nodup) (hp : ys.Pairwise (fun a b => ltOf cmpL b a = false)) : ys.Pairwise ltL := by
  have h := hp.and hn
  refine h.imp ?_
  rintro a b ⟨h1, h2⟩
  have h3 : ¬ ltL b a := fun h => by have := (cmpL_lt b a).2 h; simp [ltOf, this] at h1
  rcases ltL_tri a b with h | h | h
  · exact h
  · exact absurd h h2
  · exact absurd h h3
set_option maxHeartbeats 4000000 in
/-- slices.SortedFunc(maps.Keys(m), cmp). -/
theorem PLsorted {H : Type} (m nn : Nat) (D : DataW H) {R : Value → Option (DataW H × List MemPlace)} (L : List SPl) (w : World) (hown : w.ownsMap Tryz.prog 69 R m nn D) (hh : ∀ x, wfL x → (Maps.has D (lk x) = true ↔ x ∈ L)) (hL : ∀ x ∈ L, wfL x) (hmax : nn * 16 ≤ 140737488355328) :
    Calls Tryz.prog 46 #[.func (.func 67) #[] #[.pointer (some ⟨w.heap.size, 0, none⟩)], .func (.func 48) #[] #[]] (w.alloc (.cells #[.map (some m)] 67)) fun e w' => ∃ (v : Value) (r : List SPl), e = .returned v ∧ r.Pairwise ltL ∧ (∀ z, z ∈ r ↔ z ∈ L) ∧ r.length ≤ nn ∧ OwnG encL 2 69 w' w.heap.size v r ∧ Below w.heap.size w w' := by
  have hbl := hown.lt
  have hsz : Maps.size D ≤ nn := hown.size_le
  have hseq := PLgives Fence.wide 3 trivial rfl (by omega) w.heap.size m nn D (w.alloc (.cells #[.map (some m)] 67)) (by simp) (by simp) (by
      obtain ⟨es, clock, hb, Ft, hs, hD⟩ := hown
      exact ⟨es, clock, (Below.heap_alloc _ _ m hbl).trans hb, Ft, hs, hD⟩)
  have cS := (callsIn_wide (n := 5)).1 (PLcollect Fence.wide 5 trivial trivial rfl (by omega) 67 #[.pointer (some ⟨w.heap.size, 0, none⟩)] trivial (enters_of Tryz.func67 (by kernel_rfl) rfl) _ _ (by simp only [maxLen]; omega) (by omega) _ hseq)
  have HS := Aside0.mk cS
  have HH := Aside0.mk hh
  have HL := Aside0.mk hL
  clear hseq cS hh hL hown
  go_enter Tryz.func46, Tryz.ntmps46
  go_wp2_with fail
  refine HS.out.mono ?_
  rintro e w1 ⟨v, ss, rfl, ⟨hlen, hnd, hco⟩, hrow, hnil, hb1⟩
  have HO := Aside0.mk (OwnG.of_own (enc := encL) (C := 2) (fun _ => rfl) hrow)
  have HB1 := Aside0.mk hb1
  have HN := Aside0.mk hnd
  have HC := Aside0.mk hco
  clear hrow hnil hb1 hnd hco
  have hl : ss.length < 4611686018427387904 := by omega
  go_wp2_with (go_at_call 66; refine (PLsort HO.out hl).mono ?_; rintro e w2 ⟨rfl, ys, hp, hs, ho2, hb2⟩; have HO2 := Aside0.mk ho2; have HB2 := Aside0.mk hb2; have HP := Aside0.mk hp; have HSo := Aside0.mk hs; clear ho2 hb2 hp hs)
  go_ret
  have hz : (w.alloc (.cells #[.map (some m)] 67)).heap.size = w.heap.size + 1 := by simp
  refine ⟨v, ys, rfl, PLstrict (HP.out.nodup_iff.2 HN.out) HSo.out, fun z => ?_, by rw [HP.out.length_eq]; omega, OwnG_lower HO2.out (by rw [hz]; omega), ?_⟩
  · rw [HP.out.mem_iff, HC.out z]
    constructor
    · rintro ⟨h1, h2, _⟩
      exact (HH.out z h1).1 h2
    · intro h
      exact ⟨HL.out z h, (HH.out z (HL.out z h)).2 h, trivial⟩
  · refine ((Below.refl _ w).alloc (Nat.le_refl _) (.cells #[.map (some m)] 67)).trans ?_
    have hb := Below.trans HB1.out HB2.out
    exact hb.mono (by rw [hz]; omega)
end Go.Proofs.YtldlenjfpjihdaaGreat.PS
end
section
namespace Go.Proofs.YtldlenjfpjihdaaGreat.PS
open Go Go.RowKit Go.Proofs Go.Maps Go.Proofs.YtldlenjfpjihdaaGreatW.PrintWords Go.Proofs.YtldlenjfpjihdaaGreatW.PrintLast Go.Proofs.YtldlenjfpjihdaaGreatW.PrintMore
set_option linter.unusedVariables false
set_option linter.unusedSimpArgs false
set_option maxHeartbeats 4000000 in
set_option maxRecDepth 100000 in
theorem once_any (l : List S37) (A : Option Addr) (c : Nat) (w : World) (hC : Kd.C k37 w A l.length l) (hl : l.length * 32 ≤ 140737488355328) (hw : ∀ x ∈ l, wfP x) :
    Calls Tryz.prog 52 #[.slice A l.length c] w fun e w' => ∃ (v : Value) (r : List S37), e = .returned v ∧ Sorts l r ∧ OwnG enc37 3 37 w' w.heap.size v r ∧ Below w.heap.size w w' := by
  have hmm := @run_makeMap Tryz.prog
  have HC0 := Aside0.mk hC
  have HWf := Aside0.mk hw
  clear hC hw
  go_enter Tryz.func52, Tryz.ntmps52
  go_wp2
  have HP0 := Aside0.mk (PM.new w)
  have HB0 := Aside0.mk (below_alloc (Below.refl w.heap.size w) (.map #[] 0))
  go_loopg [9] l.length (fun gg s9 wr => ∃ k : Nat, s9 = .int .i64 k ∧ k ≤ l.length ∧ Aside0 (l.length - k ≤ gg) ∧ Aside0 (PM wr w.heap.size k (l.take k)) ∧ Aside0 (Below w.heap.size w wr))
  case atStart => exact ⟨0, rfl, Nat.zero_le _, ⟨by omega⟩, ⟨HP0.out⟩, ⟨HB0.out⟩⟩
  case round =>
    clear HP0 HB0
    obtain ⟨k, rfl, hk, HM, HL, HB⟩ := hrel
    by_cases hlt : k < l.length
    · have hltz : (k : Int) < (l.length : Int) := by omega
      obtain ⟨ad, ea, a0, a1, a2⟩ := at_T37 HC0.out (k : Int) (by omega) hltz
      subst ea
      obtain ⟨y, hy⟩ := ex_get hlt
      rw [rd37 hy] at a0 a1 a2
      simp only [Int.toNat_natCast] at a0 a1 a2
      replace a0 := (HB.out.cell (World.block_lt_of_cell? _ _ a0)).trans a0
      replace a1 := (HB.out.cell (World.block_lt_of_cell? _ _ a1)).trans a1
      replace a2 := (HB.out.cell (World.block_lt_of_cell? _ _ a2)).trans a2
      obtain ⟨w3, hrun, hL3, hg3⟩ := (HL.out.below (below_alloc (Below.refl _ _) (pO y))).put (by unfold maxLen; omega) (HWf.out y (List.mem_of_getElem? hy))
      rw [← take_snoc hy] at hL3
      have HL3 := Aside0.mk hL3
      have HB3 := Aside0.mk ((below_step HB.out (below_alloc (Below.refl _ _) (pO y))).grown hg3 (Nat.le_trans HB.out.size (by simp)) (fun k e => by cases e; exact Nat.le_refl _))
      unfold pv pO at hrun
      clear hy hL3 hg3
      go_wp2
      go_roundg (l.length - (k + 1))
      case measure => have := HM.out; omega
      case rel => exact ⟨k + 1, by go_num, hlt, ⟨Nat.le_refl _⟩, HL3, HB3⟩
    · obtain rfl : k = l.length := by omega
      have hltz : ¬ (l.length : Int) < (l.length : Int) := by omega
      have hL := HL.out
      rw [List.take_length] at hL
      obtain ⟨D, ho, hh⟩ := hL
      have hS := PPsorted w.heap.size l.length D l wr ho (fun x hx => by
        rw [hh x hx, List.any_eq_true]
        exact ⟨fun ⟨y, h1, h2⟩ => by rw [(eqP_iff x y).1 h2]; exact h1, fun h => ⟨x, h, (eqP_iff x x).2 rfl⟩⟩) HWf.out hl
      have HS := Aside0.mk hS
      have HK := Aside0.mk (PPkeys (some w.heap.size) wr)
      clear ho hh hS
      go_wp2_with (first | (go_at_call 76; refine HK.out.mono ?_; rintro e w4 ⟨rfl, rfl⟩) | (go_at_call 75; refine HS.out.mono ?_; rintro e w5 ⟨v, r, rfl, h1, h2, h3, h4, h5⟩; have H1 := Aside0.mk h1; have H2 := Aside0.mk h2; have H3 := Aside0.mk h3; have H4 := Aside0.mk h4; have H5 := Aside0.mk h5; clear h1 h2 h3 h4 h5))
      go_ret
      exact ⟨v, r, rfl, ⟨H1.out, H2.out, H3.out⟩, OwnG_lower H4.out HB.out.size, below_step HB.out H5.out⟩
end Go.Proofs.YtldlenjfpjihdaaGreat.PS
end
section
namespace Go.Proofs.YtldlenjfpjihdaaGreat.PS
open Go Go.RowKit Go.Proofs Go.Maps Go.WideMaps Go.ChangeMaps Go.WideElems
set_option linter.unusedVariables false
set_option linter.unusedSimpArgs false
/-- What is known of a key's type. -/
structure KeyK (P : Program) (K : TypeId) {α : Type} (mk : α → Value) (pk : α → Lit) (wf : α → Prop) : Prop where
  keyed : Keyed P K
  key : ∀ x, wf x → keyOf P K (mk x) = some (pk x)
  inj : ∀ x y, wf x → wf y → pk x = pk y → x = y
/-- Every value reads, as_ itself. -/
def R0 (v : Value) : Option (DataW Value × List MemPlace) := some (.held v, [])
/-- Block m is a map that has just what f tells. -/
def MapF (P : Program) (K : TypeId) {α : Type} (pk : α → Lit) (wf : α → Prop) (w : World) (m nn : Nat) (f : α → Option Value) : Prop :=
  ∃ D : DataW Value, w.ownsMap P K R0 m nn D ∧ ∀ x, wf x → (Maps.has D (pk x) = (f x).isSome ∧ ∀ v, f x = some v → ∀ zd, D.atKey (pk x) zd = .held v)
section
variable {P : Program} {K : TypeId} {α : Type} {mk : α → Value} {pk : α → Lit} {wf : α → Prop} {w w' : World} {m nn : Nat} {f g : α → Option Value}
theorem MapF.blk (h : MapF P K pk wf w m nn f) : ∃ es clock, w.heap[m]? = some (.map es clock) := by
  obtain ⟨D, ⟨es, clock, h1, _⟩, _⟩ := h
  exact ⟨es, clock, h1⟩
theorem MapF.same (h : MapF P K pk wf w m nn f) (hm : w'.heap[m]? = w.heap[m]?) : MapF P K pk wf w' m nn f := by
  obtain ⟨D, ⟨es, clock, h1, h2⟩, h3⟩ := h
  exact ⟨D, ⟨es, clock, hm.trans h1, h2⟩, h3⟩
theorem MapF.lt (h : MapF P K pk wf w m nn f) : m < w.heap.size := by
  obtain ⟨es, clock, h1⟩ := h.blk
  exact (Array.getElem?_eq_some_iff.1 h1).1
theorem MapF.below (h : MapF P K pk wf w m nn f) (hb : Below w.heap.size w w') : MapF P K pk wf w' m nn f := h.same (hb.block m h.lt)
theorem MapF.congr (h : MapF P K pk wf w m nn f) (hf : ∀ x, wf x → g x = f x) : MapF P K pk wf w m nn g := by
  obtain ⟨D, h1, h2⟩ := h
  exact ⟨D, h1, fun x hx => by rw [hf x hx]; exact h2 x hx⟩
theorem MapF.mono (h : MapF P K pk wf w m nn f) {n' : Nat} (hn : nn ≤ n') : MapF P K pk wf w m n' f := by
  obtain ⟨D, h1, h2⟩ := h
  exact ⟨D, h1.mono hn, h2⟩
theorem MapF.new (P : Program) (K : TypeId) (pk : α → Lit) (wf : α → Prop) (w : World) : MapF P K pk wf (w.alloc (.map #[] 0)) w.heap.size 0 (fun _ => none) :=
  ⟨.map [], World.ownsMap_made w P K R0, fun x _ => ⟨rfl, fun v h => by cases h⟩⟩
theorem atKey_none {H : Type} {D : DataW H} {k : Lit} (h : Maps.has D k = false) (z : DataW H) : D.atKey k z = z := by
  cases D <;> try rfl
  rename_i es
  show (match es.find? (fun p => p.1.sameKey k) with | some p => p.2 | none => z) = z
  rw [List.find?_eq_none.2 (fun p hp => ?_)]
  intro hk
  have : es.any (fun p => p.1.sameKey k) = true := List.any_eq_true.2 ⟨p, hp, hk⟩
  rw [show Maps.has (DataW.map es) k = es.any (fun p => p.1.sameKey k) from rfl, this] at h
  cases h
theorem R0_inv {v u : Value} {ps : List MemPlace} (h : R0 v = some (.held u, ps)) : v = u := by
  unfold R0 at h
  simp at h
  exact h.1
theorem MapF_val {D : DataW Value} (hh : ∀ x, wf x → (Maps.has D (pk x) = (f x).isSome ∧ ∀ v, f x = some v → ∀ zd, D.atKey (pk x) zd = .held v)) {x : α} (hx : wf x) {v z : Value} {ps : List MemPlace} (hv : R0 v = some (D.atKey (pk x) (.held z), ps)) : v = (f x).getD z := by
  cases hf : f x with
  | none =>
    have := (hh x hx).1
    rw [hf] at this
    rw [atKey_none this] at hv
    rw [R0_inv hv]
    rfl
  | some u =>
    rw [(hh x hx).2 u hf] at hv
    rw [R0_inv hv]
    rfl
/-- m[k]. -/
theorem MapF.look (hK : KeyK P K mk pk wf) (h : MapF P K pk wf w m nn f) {t e : TypeId} (ht : P.underlying t = some (.map K e)) {z : Value} (hz : (zeroValue e).run P w = .ok z w) {x : α} (hx : wf x) :
    (Instr.lookup t (.map (some m)) (mk x) false).run P w = .ok ((f x).getD z) w := by
  obtain ⟨D, ho, hh⟩ := h
  obtain ⟨v, ps, hrun, hv⟩ := ho.lookup hK.keyed ht hz (zd := .held z) (zp := []) rfl (hK.key x hx)
  rw [hrun, MapF_val hh hx hv]
open Classical in
theorem MapF.putD (hK : KeyK P K mk pk wf) {D : DataW Value} (ho : w.ownsMap P K R0 m nn D) (hh : ∀ x, wf x → (Maps.has D (pk x) = (f x).isSome ∧ ∀ v, f x = some v → ∀ zd, D.atKey (pk x) zd = .held v)) {x : α} (hx : wf x) (val : Value) :
    ∀ y, wf y → (Maps.has (D.put (pk x) (.held val)) (pk y) = (if y = x then some val else f y).isSome ∧ ∀ v, (if y = x then some val else f y) = some v → ∀ zd, (D.put (pk x) (.held val)).atKey (pk y) zd = .held v) := by
  intro y hy
  have hD : IsMap D := by obtain ⟨es, clock, _, _, _, rfl⟩ := ho; exact ⟨_, rfl⟩
  by_cases e : y = x
  · subst e
    rw [if_pos rfl]
    refine ⟨by rw [has_put_same hD (hK.keyed.key (hK.key y hy))]; rfl, fun v hv zd => ?_⟩
    obtain rfl := Option.some.inj hv
    exact atKey_put_same hD (hK.keyed.key (hK.key y hy)) _ _
  · rw [if_neg e]
    have hne : pk y ≠ pk x := fun h => e (hK.inj y x hy hx h)
    refine ⟨by rw [has_put_other hne]; exact (hh y hy).1, fun v hv zd => ?_⟩
    rw [atKey_put_other hne]
    exact (hh y hy).2 v hv zd
open Classical in
/-- m[k] = v. -/
theorem MapF.put (hK : KeyK P K mk pk wf) (h : MapF P K pk wf w m nn f) {t e : TypeId} (ht : P.underlying t = some (.map K e)) (hn : nn < maxLen) {x : α} (hx : wf x) (val : Value) :
    ∃ w', (Instr.mapUpdate t (.map (some m)) (mk x) val).run P w = .ok () w' ∧ MapF P K pk wf w' m (nn + 1) (fun y => if y = x then some val else f y) ∧ w.grownBy w' (some m) := by
  obtain ⟨D, ho, hh⟩ := h
  obtain ⟨w', hrun, h1, h2⟩ := ho.update hK.keyed ht hn (hK.key x hx) (d := .held val) (ps := []) rfl
  exact ⟨w', hrun, ⟨_, h1, MapF.putD hK ho hh hx val⟩, h2⟩
open Classical in
/-- m[k] = append(m[k], ..): the entry, then what is stored into it. -/
theorem MapF.entry (hK : KeyK P K mk pk wf) (hL : KeyLaw P K) (h : MapF P K pk wf w m nn f) {t e : TypeId} (ht : P.underlying t = some (.map K e)) {z : Value} (hz : ∀ u : World, (zeroValue e).run P u = .ok z u) (hn : nn < maxLen) {x : α} (hx : wf x) :
    ∃ (st : Nat) (w1 : World), (Instr.mapEntry t (.map (some m)) (mk x)).run P w = .ok (.tuple #[(f x).getD z, .int .i64 st]) w1 ∧ w.grownBy w1 (some m) ∧ w1.heap.size = w.heap.size ∧ (∃ es clock, w1.heap[m]? = some (.map es clock)) ∧
      ∀ (w2 : World) (val : Value), w2.heap[m]? = w1.heap[m]? → ∃ w3, (Instr.entryStore t (.map (some m)) (.int .i64 st) val).run P w2 = .ok () w3 ∧ MapF P K pk wf w3 m (nn + 1) (fun y => if y = x then some val else f y) ∧ w2.grownBy w3 (some m) ∧ w3.heap.size = w2.heap.size := by
  obtain ⟨D, ho, hh⟩ := h
  obtain ⟨v, ps, hlr, hv⟩ := ho.lookup hK.keyed ht (hz w) (zd := .held z) (zp := []) rfl (hK.key x hx)
  have ho2 := ho
  obtain ⟨es, clock, hb, F, hs, hD⟩ := ho2
  obtain ⟨v0, st, es1, clock1, h1, h2, h3⟩ := entry_then_store hL ht hz hb F (hK.key x hx)
  have hgr : ∀ (u : World) (es0 : Array MapEntry) (c0 : Nat) (o' : Obj), u.heap[m]? = some (.map es0 c0) → u.grownBy (setBlock u m o') (some m) := fun u es0 c0 o' hu => ⟨rfl, rfl, rfl, by simp [setBlock], fun i _ hi => heap_setBlock_other hu _ (fun e => hi (by rw [e]))⟩
  have hv0 : v0 = (f x).getD z := by
    rcases h2 with ⟨e0, he, hk, rfl⟩ | ⟨hno, rfl⟩
    · -- the entry that is there
      rcases hf : Maps.fit_look false hK.keyed ht (hz w) hb F (hK.key x hx) with ⟨hrun, hn0, _⟩ | ⟨e1, y, hm1, hk1, hrun, hR1, _, _⟩
      · exact absurd hk (hn0 e0 he)
      · have : e0 = e1 := by
          obtain ⟨_, hnd, hpw⟩ := F.stamped
          by_cases heq : e0 = e1
          · exact heq
          · exfalso
            obtain ⟨i, hi⟩ := List.getElem?_of_mem he
            obtain ⟨j, hj⟩ := List.getElem?_of_mem hm1
            have hij : i ≠ j := fun e => by subst e; rw [hi] at hj; exact heq (Option.some.inj hj)
            rw [List.Nodup, List.pairwise_map, List.pairwise_iff_getElem] at hpw
            obtain ⟨hil, hie⟩ := List.getElem?_eq_some_iff.1 hi
            obtain ⟨hjl, hje⟩ := List.getElem?_eq_some_iff.1 hj
            rcases Nat.lt_or_gt_of_ne hij with hlt | hlt
            · exact hpw i j hil hjl hlt (by rw [hie, hje, hk, hk1])
            · exact hpw j i hjl hil hlt (by rw [hie, hje, hk, hk1])
        subst this
        rw [hrun] at hlr
        have e2 : v = e0.val := by injection hlr with h _; exact h.symm
        rw [e2] at hv
        exact MapF_val hh hx hv
    · rcases Maps.fit_look false hK.keyed ht (hz w) hb F (hK.key x hx) with ⟨hrun, hn0, _⟩ | ⟨e1, y, hm1, hk1, _⟩
      · rw [hrun] at hlr
        have e2 : v = v0 := by injection hlr with h _; exact h.symm
        rw [e2] at hv
        exact MapF_val hh hx hv
      · exact absurd hk1 (hno e1 hm1)
  have hm1 : (setBlock w m (.map es1 clock1)).heap[m]? = some (.map es1 clock1) := heap_setBlock_same hb _
  refine ⟨st, setBlock w m (.map es1 clock1), by rw [← hv0]; exact h1, hgr w es clock _ hb, by simp [setBlock], ⟨_, _, hm1⟩, fun w2 val hw2 => ?_⟩
  have hb2 := hw2.trans hm1
  obtain ⟨es', clock', h4, h5⟩ := h3 w2 val hb2
  obtain ⟨w', hrun', ho', hg'⟩ := ho.update hK.keyed ht hn (hK.key x hx) (d := .held val) (ps := []) rfl
  have e : w' = setBlock w m (.map es' clock') := by rw [hrun'] at h5; injection h5
  subst e
  refine ⟨_, h4, ⟨_, ?_, MapF.putD hK ho hh hx val⟩, hgr w2 es1 clock1 _ hb2, by simp [setBlock]⟩
  obtain ⟨es2, c2, hb3, F2, hs2, hD2⟩ := ho'
  exact ⟨es2, c2, (heap_setBlock_same hb2 _).trans ((heap_setBlock_same hb _).symm.trans hb3), F2, hs2, hD2⟩
end
end Go.Proofs.YtldlenjfpjihdaaGreat.PS
end
section
namespace Go.Proofs.YtldlenjfpjihdaaGreat.PS
open Go Go.RowKit Go.Proofs Go.Maps Go.WideMaps Go.Proofs.YtldlenjfpjihdaaGreatW.PrintWords Go.Proofs.YtldlenjfpjihdaaGreatW.PrintLast Go.Proofs.YtldlenjfpjihdaaGreatW.PrintMore
set_option linter.unusedVariables false
set_option linter.unusedSimpArgs false
instance : DecidableEq SPl := fun a b => if h : a.f0 = b.f0 ∧ a.f1 = b.f1 then isTrue (by cases a; cases b; simp_all) else isFalse (fun e => h (by subst e; exact ⟨rfl, rfl⟩))
def atP (s : S46) (p : SPl) : Bool := s.f0 == p.f0 && s.f1 == p.f1
def plS (s : S46) : SPl := ⟨s.f0, s.f1⟩
theorem atP_iff (s : S46) (p : SPl) : atP s p = true ↔ plS s = p := by
  unfold atP plS
  cases p
  simp
def hasPl (L : List S46) (p : SPl) : Bool := L.any (fun s => atP s p)
def rangesAt (L : List S46) (p : SPl) : List S44 := (L.filter (fun s => atP s p)).map (·.f2)
theorem rangesAt_snoc (L : List S46) (y : S46) (p : SPl) : rangesAt (L ++ [y]) p = rangesAt L p ++ (if plS y = p then [y.f2] else []) := by
  unfold rangesAt
  rw [List.filter_append, List.map_append]
  by_cases h : plS y = p
  · simp [h, (atP_iff y p).2 h]
  · have hb : atP y p = false := by rw [← Bool.not_eq_true]; exact fun e => h ((atP_iff y p).1 e)
    simp [h, hb]
theorem hasPl_snoc (L : List S46) (y : S46) (p : SPl) : hasPl (L ++ [y]) p = (hasPl L p || decide (plS y = p)) := by
  unfold hasPl
  rw [List.any_append]
  congr 1
  rw [Bool.eq_iff_iff]
  simp [atP_iff]
theorem rangesAt_none {L : List S46} {p : SPl} (h : hasPl L p = false) : rangesAt L p = [] := by
  unfold rangesAt
  rw [List.map_eq_nil_iff, List.filter_eq_nil_iff]
  intro s hs
  have := List.any_eq_false.1 h s hs
  simpa using this
theorem rangesAt_len (L : List S46) (p : SPl) : (rangesAt L p).length ≤ L.length := by
  unfold rangesAt
  rw [List.length_map]
  exact List.length_filter_le _ _
theorem KL : KeyK Tryz.prog 69 lv lk wfL := ⟨kmapL, fun x hx => klt hx, fun x y hx hy h => lk_inj hx hy h⟩
abbrev MapL (w : World) (m nn : Nat) (f : SPl → Option Value) : Prop := MapF Tryz.prog 69 lk wfL w m nn f
theorem R_tight {w : World} {b : Nat} {ok : Nat → Prop} {v : Value} {xs : List S44} (h : Kd.R k44 44 w b ok v xs) : Kd.R k44 44 w b (fun k => some k = v.ownBlock) v xs :=
  ⟨fun k hk => hk.symm, h.2.imp_ (fun p cs hp => by rw [k44_openM hp]; exact k44_mkM _ _ _ p)⟩
theorem R_loose {w : World} {b : Nat} {ok : Nat → Prop} {v : Value} {xs : List S44} (h : Kd.R k44 44 w b ok v xs) : Kd.R k44 44 w b (fun _ => True) v xs := Kd.R_mono h (fun _ _ => trivial)
theorem info44 : (Tryz.prog.info? 44).map (fun i => (i.zero, i.size, i.bytes)) = some (some (.agg #[(.string ⟨#[]⟩), (.string ⟨#[]⟩), (.bool false)]), 3, 40) := by kernel_rfl
/-- append(v, r), r being boxed somewhere. -/
theorem app44 {ops : Array Oper} {rest : List Oper} {o : Oper} {a : Act} {Q : Exit → Act → World → Prop} (W : World) (hgd : o.guard = none) (s x : Operand) (ho : o.op = .call { callee := .builtin .append, args := #[s, x], argTypes := #[70, 70] })
    (b : Nat) (v : Value) (xs : List S44) (p : S44) (hs : a.eval s = v) (g : Nat) (hx : a.eval x = .slice (some ⟨g, 0, none⟩) 1 1) (hg : W.heap[g]? = some (.cells #[.string p.f0, .string p.f1, .bool p.f2] 44 (0, 0)))
    (HO : Kd.R k44 44 W b (fun _ => True) v xs) (hbase : b ≤ W.heap.size) (hl : (xs.length + 1) * 40 ≤ 140737488355328)
    (h : ∀ v1 w1, Kd.R k44 44 w1 b (fun _ => True) v1 (xs ++ [p]) → W.grownBy w1 v.ownBlock → (v1.ownBlock = v.ownBlock ∨ v1.ownBlock = some W.heap.size) → wpList Tryz.prog ops Q rest (a.put o.dst v1) w1) :
    wpList Tryz.prog ops Q (o :: rest) a W := by
  obtain ⟨i0, hi, hz0, hz1, hz2⟩ := info_parts info44
  obtain ⟨h0, inner, hown, hr⟩ := HO
  have hown' : W.ownsRow b 44 3 v xs.length inner := hown
  refine wpList_append_own_at W hgd s x 70 ho b 44 i0 _ 3 40 Tryz.underlying70 hi hz0 hz1 hz2 rfl (by decide) v xs.length inner hs hown' ⟨g, 0, none⟩ 1 1 [.string p.f0, .string p.f1, .bool p.f2] hx rfl (World.news_of_block hg) (by intro u hu; simp at hu; rcases hu with rfl | rfl | rfl <;> rfl) (by unfold maxLen; omega) hl hbase ?_
  intro v1 w1 hown1 hg1 hnil hat
  exact h v1 w1 (Kd.R_appended h0 hr (k44_mkM W b (fun _ => False) p) (fun k hk => hk.elim) (fun _ _ => trivial) hown1 hg1 (by rcases hat with h | h; exact .inl h; exact .inr ⟨_, h, Nat.le_refl _⟩)) hg1 hat
/-- Behind some spans: the map's rows. -/
structure GM (b m : Nat) (w : World) (nn : Nat) (L : List S46) (vf : SPl → Value) : Prop where
  mp : MapL w m nn (fun p => if hasPl L p = true then some (vf p) else none)
  row : ∀ p, Kd.R k44 44 w b (fun k => some k = (vf p).ownBlock) (vf p) (rangesAt L p)
  nil : ∀ p, hasPl L p = false → vf p = .slice none 0 0
  apart : ∀ p q, p ≠ q → ∀ k, (vf p).ownBlock = some k → (vf q).ownBlock ≠ some k
theorem GM.below {b m nn : Nat} {w w' : World} {L : List S46} {vf : SPl → Value} (h : GM b m w nn L vf) (hb : Below w.heap.size w w') : GM b m w' nn L vf :=
  ⟨h.mp.below hb, fun p => Kd.R_below (h.row p) hb, h.nil, h.apart⟩
theorem GM.new (w : World) (b : Nat) : GM b w.heap.size (w.alloc (.map #[] 0)) 0 [] (fun _ => .slice none 0 0) :=
  ⟨(MapF.new Tryz.prog 69 lk wfL w).congr (fun x _ => rfl), fun p => Kd.R_nil _ _ _ _ _, fun p _ => rfl, fun p q _ k hk => by simp [Value.ownBlock] at hk⟩
theorem row_ne_map {b m : Nat} {w : World} {ok : Nat → Prop} {v : Value} {xs : List S44} (h : Kd.R k44 44 w b ok v xs) (hm : ∃ es clock, w.heap[m]? = some (.map es clock)) : v.ownBlock ≠ some m := by
  intro e
  obtain ⟨cells, hc⟩ := Kd.R_typed h m e
  obtain ⟨es, clock, hm⟩ := hm
  rw [hm] at hc
  cases hc
def upd (vf : SPl → Value) (p : SPl) (v : Value) : SPl → Value := fun q => if q = p then v else vf q
/-- One more span: the entry, then what is stored into it. -/
theorem GM.step {b m nn : Nat} {W : World} {L : List S46} {vf : SPl → Value} (h : GM b m W nn L vf) (hn : nn < maxLen) {y : S46} (hy : wfL (plS y)) :
    ∃ (st : Nat) (w1 : World), (Instr.mapEntry 67 (.map (some m)) (lv (plS y))).run Tryz.prog W = .ok (.tuple #[vf (plS y), .int .i64 st]) w1 ∧ W.grownBy w1 (some m) ∧ w1.heap.size = W.heap.size ∧ Kd.R k44 44 w1 b (fun _ => True) (vf (plS y)) (rangesAt L (plS y)) ∧
      ∀ (v' : Value) (w2 : World), Kd.R k44 44 w2 b (fun _ => True) v' (rangesAt L (plS y) ++ [y.f2]) → w1.grownBy w2 (vf (plS y)).ownBlock → (v'.ownBlock = (vf (plS y)).ownBlock ∨ v'.ownBlock = some w1.heap.size) →
        ∃ w3, (Instr.entryStore 67 (.map (some m)) (.int .i64 st) v').run Tryz.prog w2 = .ok () w3 ∧ GM b m w3 (nn + 1) (L ++ [y]) (upd vf (plS y) v') ∧ w2.grownBy w3 (some m) ∧ w3.heap.size = w2.heap.size := by
  obtain ⟨st, w1, h1, h2, h3, hm1, h4⟩ := MapF.entry KL law69 h.mp Tryz.underlying67 (z := .slice none 0 0) (fun u => Tryz.zeroValue70 u) hn hy
  have hv : ((if hasPl L (plS y) = true then some (vf (plS y)) else none).getD (.slice none 0 0)) = vf (plS y) := by
    cases hh : hasPl L (plS y) with
    | true => rfl
    | false => rw [h.nil _ hh]; rfl
  rw [hv] at h1
  have hmb := h.mp.blk
  have hml := h.mp.lt
  have hrow1 : ∀ p, Kd.R k44 44 w1 b (fun k => some k = (vf p).ownBlock) (vf p) (rangesAt L p) := fun p => Kd.R_grown (h.row p) h2 (fun k hk e => row_ne_map (h.row p) hmb (by rw [← hk, e]))
  refine ⟨st, w1, h1, h2, h3, R_loose (hrow1 _), fun v' w2 hv' hg hat => ?_⟩
  have hm2 : w2.heap[m]? = w1.heap[m]? := hg.block m (by omega) (fun e => row_ne_map (h.row (plS y)) hmb e.symm)
  obtain ⟨w3, h5, h6, h7, h8⟩ := h4 w2 v' hm2
  refine ⟨w3, h5, ⟨h6.congr (fun p hp => ?_), fun p => ?_, fun p hp => ?_, ?_⟩, h7, h8⟩
  · rw [hasPl_snoc]
    unfold upd
    by_cases e : p = plS y
    · subst e; simp
    · rw [if_neg e, if_neg e]
      have : decide (plS y = p) = false := decide_eq_false (fun h => e h.symm)
      rw [this, Bool.or_false]
  · have hmb2 : ∃ es clock, w2.heap[m]? = some (.map es clock) := by
      obtain ⟨a, c, e1⟩ := hm1
      exact ⟨a, c, hm2.trans e1⟩
    unfold upd
    rw [rangesAt_snoc]
    by_cases e : p = plS y
    · subst e
      rw [if_pos rfl, if_pos rfl]
      exact Kd.R_grown (R_tight hv') h7 (fun k hk e => row_ne_map hv' hmb2 (by rw [← hk, e]))
    · rw [if_neg e, if_neg (fun h => e h.symm), List.append_nil]
      have hr2 : Kd.R k44 44 w2 b (fun k => some k = (vf p).ownBlock) (vf p) (rangesAt L p) := Kd.R_grown (hrow1 p) hg (fun k hk e2 => h.apart p (plS y) e k hk.symm (by rw [← e2]))
      exact Kd.R_grown hr2 h7 (fun k hk e2 => row_ne_map hr2 hmb2 (by rw [← hk, e2]))
  · rw [hasPl_snoc] at hp
    rw [Bool.or_eq_false_iff] at hp
    unfold upd
    rw [if_neg (fun e => by have := hp.2; rw [e] at this; simp at this)]
    exact h.nil p hp.1
  · intro p q hpq k
    unfold upd
    by_cases e : p = plS y
    · subst e
      rw [if_pos rfl, if_neg (fun e => hpq e.symm)]
      intro hk
      rcases hat with ha | ha
      · exact h.apart _ q hpq k (by rw [← ha]; exact hk)
      · rw [ha] at hk
        intro hq
        have := Kd.R_lt (h.row q) k hq
        have : w1.heap.size = k := Option.some.inj hk
        omega
    · rw [if_neg e]
      intro hk
      by_cases e2 : q = plS y
      · subst e2
        rw [if_pos rfl]
        rcases hat with ha | ha
        · rw [ha]; exact h.apart p _ hpq k hk
        · rw [ha]
          intro hq
          have := Kd.R_lt (h.row p) k hk
          have : w1.heap.size = k := Option.some.inj hq
          omega
      · rw [if_neg e2]
        exact h.apart p q hpq k hk
end Go.Proofs.YtldlenjfpjihdaaGreat.PS
end
section
namespace Go.Proofs.YtldlenjfpjihdaaGreat.PA
open Go.Proofs.YtldlenjfpjihdaaGreat.PS hiding below_step bs bless_eq
open Go.RowKit Go.Proofs Go.Proofs.YtldlenjfpjihdaaGreatW.PrintWords Go.Proofs.YtldlenjfpjihdaaGreatW.PrintLast Go.Proofs.YtldlenjfpjihdaaGreatW.PrintMore
attribute [local go_sem] Go.Lib.run_max_strs Go.Lib.run_min_strs
set_option linter.unusedVariables false
set_option linter.unusedSimpArgs false
def enc44 (x : S44) : List Value := [.string x.f0, .string x.f1, .bool x.f2]
/-- A row of ranges in a block, from its first cell on, none of whose cells is frozen. -/
def Row3 (w : World) (g : Nat) (xs : List S44) : Prop := ∀ (i : Nat) (x : S44), xs[i]? = some x → ∀ (j : Nat) (u : Value), (enc44 x)[j]? = some u → w.cell? ⟨g, i * 3 + j, none⟩ = some u ∧ w.frozen? ⟨g, i * 3 + j, none⟩ = false
theorem Row3.at0 {w : World} {g : Nat} {xs : List S44} (h : Row3 w g xs) {i : Nat} {x : S44} (hi : xs[i]? = some x) : w.cell? ⟨g, i * 3, none⟩ = some (.string x.f0) ∧ w.cell? ⟨g, i * 3 + 1, none⟩ = some (.string x.f1) ∧ w.cell? ⟨g, i * 3 + 2, none⟩ = some (.bool x.f2) ∧
    w.frozen? ⟨g, i * 3, none⟩ = false ∧ w.frozen? ⟨g, i * 3 + 1, none⟩ = false ∧ w.frozen? ⟨g, i * 3 + 2, none⟩ = false :=
  ⟨(h i x hi 0 _ rfl).1, (h i x hi 1 _ rfl).1, (h i x hi 2 _ rfl).1, (h i x hi 0 _ rfl).2, (h i x hi 1 _ rfl).2, (h i x hi 2 _ rfl).2⟩
theorem Row3.same {w w' : World} {g : Nat} {xs : List S44} (h : Row3 w g xs) (e : w'.heap[g]? = w.heap[g]?) : Row3 w' g xs := by
  intro i x hi j u hu
  have := h i x hi j u hu
  simpa [World.cell?, World.frozen?, e] using this
theorem Row3.below {w w' : World} {g : Nat} {xs : List S44} (h : Row3 w g xs) (hg : g < w.heap.size) (hb : Below w.heap.size w w') : Row3 w' g xs := h.same (hb.block g hg)
theorem Row3.lt {w : World} {g : Nat} {xs : List S44} (h : Row3 w g xs) (hn : 0 < xs.length) : g < w.heap.size := by
  have := (h 0 _ (List.getElem?_eq_getElem hn) 0 _ rfl).1
  exact World.block_lt_of_cell? w _ this
theorem Row3.take {w : World} {g : Nat} {xs : List S44} (h : Row3 w g xs) (n : Nat) : Row3 w g (xs.take n) := by
  intro i x hi
  refine h i x ?_
  rw [List.getElem?_take] at hi
  split at hi
  · exact hi
  · cases hi
theorem Row3.C {w : World} {g : Nat} {xs : List S44} (h : Row3 w g xs) (hl : xs.length ≤ 9223372036854775807) : Kd.C k44 w (some ⟨g, 0, none⟩) xs.length xs := by
  refine ⟨rfl, hl, fun _ => ⟨_, rfl, fun j p hp => ⟨enc44 p, rfl, k44_mk w p, fun i u hu => ?_⟩⟩⟩
  have := (h j p hp i u hu).1
  rw [add_plain]
  exact this
/-- slices.IndexFunc at ranges: the first that the predicate takes. -/
theorem idxf_rng (p : S44 → Bool) (g : Nat) (lb : Array Value) (eg : ∀ args w, (callFunc g args).run Tryz.prog w = .ok (.enter g args) w) (A : Option Addr) (xs : List S44) (c : Nat) (w : World) (hC : Kd.C k44 w A xs.length xs)
    (hp : ∀ (W : World) (x : S44), Below w.heap.size w W → Calls Tryz.prog g (#[.agg (enc44 x).toArray] ++ lb) W fun e w' => e = .returned (.bool (p x)) ∧ Below w.heap.size w w') :
    Calls Tryz.prog 77 #[.slice A xs.length c, .func (.func g) #[] lb] w fun e w' => e = .returned (.int .i64 (idxF p xs)) ∧ Below w.heap.size w w' := by
  have HC := Aside0.mk hC
  have hmax : xs.length ≤ 9223372036854775807 := hC.2.1
  clear hC
  go_enter Tryz.func77, Tryz.ntmps77
  go_wp2
  go_loopg [5, 8] xs.length (fun gg _ s8 wr => ∃ kk : Nat, s8 = .int .i64 kk ∧ Aside0 (kk ≤ xs.length) ∧ Aside0 (xs.length - kk ≤ gg) ∧ Aside0 (Below w.heap.size w wr) ∧ Aside0 (∀ x ∈ xs.take kk, p x = false))
  case atStart => exact ⟨0, rfl, ⟨Nat.zero_le _⟩, ⟨by omega⟩, ⟨Below.refl _ w⟩, ⟨fun x hx => by simp at hx⟩⟩
  case round =>
    obtain ⟨kk, rfl, HK, HM, HB, HN⟩ := hrel
    have hkk := HK.out
    by_cases hlt : kk < xs.length
    · have hltz : (kk : Int) < (xs.length : Int) := by omega
      obtain ⟨ad, e, hx0, hx1, hx2⟩ := at_T44 HC.out (kk : Int) (by omega) hltz
      subst e
      simp only [Int.toNat_natCast] at hx0 hx1 hx2
      replace hx0 := (HB.out.cell (World.block_lt_of_cell? w _ hx0)).trans hx0
      replace hx1 := (HB.out.cell (World.block_lt_of_cell? w _ hx1)).trans hx1
      replace hx2 := (HB.out.cell (World.block_lt_of_cell? w _ hx2)).trans hx2
      have hy : xs[kk]? = some (rd_T44 xs (kk : Int)) := by unfold rd_T44; simp [List.getD, List.getElem?_eq_getElem hlt]
      generalize rd_T44 xs (kk : Int) = y at hx0 hx1 hx2 hy
      have HY := Aside0.mk hy
      have hcall := hp wr y HB.out
      unfold enc44 at hcall
      clear hy hp
      cases hq : p y with
      | true =>
        rw [hq] at hcall
        go_wp2_with (go_at_fn g; refine hcall.mono ?_; rintro e w' ⟨rfl, hb'⟩)
        go_ret
        exact ⟨by rw [any_take HY.out HN.out hq]; rfl, hb'⟩
      | false =>
        rw [hq] at hcall
        go_wp2_with (go_at_fn g; refine hcall.mono ?_; rintro e w' ⟨rfl, hb'⟩)
        go_roundg (xs.length - (kk + 1))
        case measure => have := HM.out; omega
        case rel => exact ⟨kk + 1, by go_num, ⟨by omega⟩, ⟨Nat.le_refl _⟩, ⟨hb'⟩, ⟨take_step HY.out HN.out hq⟩⟩
    · obtain rfl : kk = xs.length := by omega
      have hltz : ¬ (xs.length : Int) < (xs.length : Int) := by omega
      go_wp2
      go_ret
      exact ⟨by rw [any_none HN.out]; rfl, HB.out⟩
theorem idxF_cases {α : Type} (p : α → Bool) (xs : List α) : (idxF p xs = -1 ∧ ∀ x ∈ xs, p x = false) ∨ ∃ k : Nat, k < xs.length ∧ idxF p xs = (k : Int) ∧ (∀ x ∈ xs.take k, p x = false) ∧ ∃ y, xs[k]? = some y ∧ p y = true := by
  unfold idxF
  cases h : xs.any p with
  | false =>
    left
    refine ⟨if_neg (by decide), fun x hx => ?_⟩
    have := List.any_eq_false.1 h x hx
    simpa using this
  | true =>
    right
    have hlt : xs.findIdx p < xs.length := List.findIdx_lt_length.2 (by simpa using h)
    refine ⟨xs.findIdx p, hlt, if_pos rfl, fun x hx => ?_, xs[xs.findIdx p], List.getElem?_eq_getElem hlt, List.findIdx_getElem⟩
    obtain ⟨j, hj, rfl⟩ := List.mem_take_iff_getElem.1 hx
    have := List.not_of_lt_findIdx (p := p) (xs := xs) (i := j) (by omega)
    simpa using this
/-- Behind j elements of which i were kept: the begin is what was kept, the rest is as_ it was. -/
structure Kept3 (p : S44 → Bool) (xs L : List S44) (i j : Nat) : Prop where
  len : L.length = xs.length
  lt : i < j
  le : j ≤ xs.length
  low : L.take i = (xs.take j).filter fun x => !p x
  high : ∀ k, j ≤ k → L[k]? = xs[k]?
theorem Kept3.start {p : S44 → Bool} {xs : List S44} {k : Nat} {y : S44} (hk : k < xs.length) (h : ∀ x ∈ xs.take k, p x = false) (hy : xs[k]? = some y) (hp : p y = true) : Kept3 p xs xs k (k + 1) := by
  refine ⟨rfl, Nat.lt_succ_self _, hk, ?_, fun _ _ => rfl⟩
  rw [List.take_add_one, hy, List.filter_append, List.filter_eq_self.2 (fun x hx => by rw [h x hx]; rfl)]
  simp [hp]
theorem Kept3.skip {p : S44 → Bool} {xs L : List S44} {i j : Nat} {y : S44} (h : Kept3 p xs L i j) (hy : xs[j]? = some y) (hp : p y = true) : Kept3 p xs L i (j + 1) := by
  have hj := (List.getElem?_eq_some_iff.1 hy).1
  refine ⟨h.len, Nat.lt_succ_of_lt h.lt, hj, ?_, fun k hk => h.high k (by omega)⟩
  rw [List.take_add_one, hy, List.filter_append, h.low]
  simp [hp]
theorem Kept3.keep {p : S44 → Bool} {xs L : List S44} {i j : Nat} {y : S44} (h : Kept3 p xs L i j) (hy : xs[j]? = some y) (hp : p y = false) : Kept3 p xs (L.set i y) (i + 1) (j + 1) := by
  have hj := (List.getElem?_eq_some_iff.1 hy).1
  have hlen := h.len
  have hlt := h.lt
  refine ⟨by rw [List.length_set]; exact h.len, by omega, hj, ?_, fun k hk => ?_⟩
  · rw [List.take_add_one, List.getElem?_set_self (by omega), List.take_set_of_le (Nat.le_refl _), h.low, List.take_add_one, hy, List.filter_append]
    simp [hp]
  · rw [List.getElem?_set_ne (by omega)]; exact h.high k (by omega)
theorem Row3.set {w : World} {g : Nat} {xs : List S44} (h : Row3 w g xs) (i : Nat) (hi : i < xs.length) (y : S44) : Row3 (w.setCells g (i * 3) (enc44 y)) g (xs.set i y) := by
  intro k x hk j u hu
  have hj : j < 3 := by have := (List.getElem?_eq_some_iff.1 hu).1; simpa [enc44] using this
  rw [World.frozen?_setCells]
  by_cases e : i = k
  · subst e
    rw [List.getElem?_set_self hi, Option.some.injEq] at hk
    subst hk
    have hin := World.cell?_setCells_in g (enc44 y) (i * 3) w (fun t ht => by
      have ht3 : t < 3 := by simpa [enc44] using ht
      have := (h i _ (List.getElem?_eq_getElem hi) t ((enc44 xs[i])[t]'(by simpa [enc44] using ht3)) (List.getElem?_eq_getElem _)).1
      rw [this]; rfl) j (by simpa [enc44] using hj)
    refine ⟨?_, (h i _ (List.getElem?_eq_getElem hi) j ((enc44 xs[i])[j]'(by simpa [enc44] using hj)) (List.getElem?_eq_getElem _)).2⟩
    rw [hin]
    have := (List.getElem?_eq_some_iff.1 hu).2
    rw [← this]
  · rw [List.getElem?_set_ne e] at hk
    rw [World.cell?_setCells_out g _ _ _ _ (fun _ _ => by simp [enc44]; omega)]
    exact h k x hk j u hu
theorem Row3.cut {w : World} {g : Nat} {xs : List S44} (h : Row3 w g xs) (i : Nat) (vs : List Value) : Row3 (w.setCells g (i * 3) vs) g (xs.take i) := by
  intro k x hk j u hu
  have hj : j < 3 := by have := (List.getElem?_eq_some_iff.1 hu).1; simpa [enc44] using this
  rw [List.getElem?_take] at hk
  split at hk
  · rw [World.frozen?_setCells, World.cell?_setCells_out g _ _ _ _ (fun _ _ => by left; show k * 3 + j < i * 3; omega)]
    exact h k x hk j u hu
  · cases hk
theorem below_sets {B g : Nat} {w0 w : World} (hg : B ≤ g) (vs : List Value) (o : Nat) (h : Below B w0 w) : Below B w0 (w.setCells g o vs) := by
  obtain ⟨s1, s2, s3, s4⟩ := setCells_same g vs o w
  exact ⟨s1.trans h.os, s2.trans h.tape, s3.trans h.output, by rw [s4]; exact h.size, fun i hi => (setCells_far vs o i (by omega)).trans (h.block i hi)⟩
/-- 'clear' at ranges: some cells are laid, from the first one on. -/
theorem run_clear3 (w : World) (b i n c : Nat) (L : List S44) (hR : Row3 w b L) (hn : 0 < n) (hL : i + n = L.length) : ∃ vs : List Value, ∀ ty, (Builtin.clear_ #[70] ty #[.slice (some ⟨b, i * 3, none⟩) n c]).run Tryz.prog w = .ok (.tuple #[]) (w.setCells b (i * 3) vs) := by
  have hv := Tryz.zeroValue44
  generalize hz : (Builtin.zeroCells (#[.string (⟨#[]⟩ : ByteArray), .string (⟨#[]⟩ : ByteArray), .bool false] : Array Value) n).toList = vs
  have hlen : vs.length = n * 3 := by rw [← hz]; simp [Builtin.zeroCells]
  have hone : ∀ v ∈ vs, v.oneCell' = true := by
    intro v hv'
    rw [← hz] at hv'
    simp only [Builtin.zeroCells, Array.toList_map, Array.toList_range, List.mem_map] at hv'
    obtain ⟨j, _, rfl⟩ := hv'
    have h3 : j % 3 = 0 ∨ j % 3 = 1 ∨ j % 3 = 2 := by omega
    show (#[Value.string (⟨#[]⟩ : ByteArray), .string (⟨#[]⟩ : ByteArray), .bool false][j % 3]!).oneCell' = true
    rcases h3 with e | e | e <;> rw [e] <;> rfl
  have hcell : ∀ j, j < vs.length → (w.cell? ⟨b, i * 3 + j, none⟩).isSome = true ∧ w.frozen? ⟨b, i * 3 + j, none⟩ = false := by
    intro j hj
    rw [hlen] at hj
    have hk : i + j / 3 < L.length := by omega
    have hj3 : j % 3 < (enc44 L[i + j / 3]).length := by show j % 3 < 3; omega
    have := hR (i + j / 3) _ (List.getElem?_eq_getElem hk) (j % 3) _ (List.getElem?_eq_getElem hj3)
    rw [show (i + j / 3) * 3 + j % 3 = i * 3 + j by omega] at this
    exact ⟨by rw [this.1]; rfl, this.2⟩
  have hst := run_storeCells_cells (P := Tryz.prog) b (i * 3) vs 0 w (fun j hj => by simpa using (hcell j hj).1) (fun j hj => by simpa using (hcell j hj).2) hone
  simp only [Nat.add_zero] at hst
  refine ⟨vs, fun ty => ?_⟩
  obtain ⟨m, rfl⟩ : ∃ m, n = m + 1 := ⟨n - 1, by omega⟩
  simp [Builtin.clear_, run_underlying Tryz.underlying70, hv, hz, hst, Value.cells]
set_option maxHeartbeats 4000000 in
set_option maxRecDepth 100000 in
theorem delf_rng (p : S44 → Bool) (g : Nat) (lb : Array Value) (eg : ∀ args w, (callFunc g args).run Tryz.prog w = .ok (.enter g args) w) (w0 : World) (gb cap : Nat) (xs : List S44) (w : World) (hR : Row3 w gb xs) (hl : xs.length ≤ 4611686018427387904) (hcap : xs.length ≤ cap) (h0 : w0.heap.size ≤ gb) (hB : Below w0.heap.size w0 w)
    (hp : ∀ (W : World) (x : S44), Calls Tryz.prog g (#[.agg (enc44 x).toArray] ++ lb) W fun e w' => e = .returned (.bool (p x)) ∧ Below W.heap.size W w') :
    Calls Tryz.prog 69 #[.slice (some ⟨gb, 0, none⟩) xs.length cap, .func (.func g) #[] lb] w fun e w' => e = .returned (.slice (some ⟨gb, 0, none⟩) (xs.filter fun x => !p x).length cap) ∧ Row3 w' gb (xs.filter fun x => !p x) ∧ Below w0.heap.size w0 w' ∧ w.heap.size ≤ w'.heap.size := by
  have hidx := idxf_rng p g lb eg (some ⟨gb, 0, none⟩) xs cap w (hR.C (by omega)) (fun W x hb => (hp W x).mono fun e w' h => ⟨h.1, Below.trans hb (h.2.mono hb.size)⟩)
  rcases idxF_cases p xs with ⟨e1, hall⟩ | ⟨k0, hk0, e1, hall, y0, hy0, hpy⟩
  · rw [e1] at hidx
    have hf : (xs.filter fun x => !p x) = xs := List.filter_eq_self.2 fun x hx => by rw [hall x hx]; rfl
    rw [hf]
    have HR := Aside0.mk hR
    have HB := Aside0.mk hB
    clear hR hB hp hf hall
    go_enter Tryz.func69, Tryz.ntmps69
    go_wp2_with (go_at_call 77; refine hidx.mono ?_; rintro e w' ⟨rfl, hb'⟩)
    go_ret
    refine ⟨rfl, ?_, below_step HB.out hb', hb'.size⟩
    intro i x hi
    exact Row3.below HR.out (HR.out.lt (by have := (List.getElem?_eq_some_iff.1 hi).1; omega)) hb' i x hi
  · rw [e1] at hidx
    have hlow : (k0 : Int) ≠ -1 := by omega
    have HR := Aside0.mk hR
    have HB := Aside0.mk hB
    have HP := Aside0.mk hp
    have HK := Aside0.mk (Kept3.start hk0 hall hy0 hpy)
    clear hR hB hp hall hy0 hpy
    go_enter Tryz.func69, Tryz.ntmps69
    go_wp2_with (go_at_call 77; refine hidx.mono ?_; rintro e w1 ⟨rfl, hb1⟩)
    have hgb := HR.out.lt (by omega)
    have HR1 := Aside0.mk (HR.out.below hgb hb1)
    have HB1 := Aside0.mk (below_step HB.out hb1)
    have HZ := Aside0.mk hb1.size
    have HG := Aside0.mk hgb
    clear hb1 hgb
    go_loopg [5, 6, 7] xs.length (fun gg s5 s6 _ wr => ∃ (i j : Nat) (L : List S44), s5 = .int .i64 i ∧ s6 = .int .i64 j ∧ Aside0 (Kept3 p xs L i j) ∧ Aside0 (xs.length - j ≤ gg) ∧ Aside0 (Row3 wr gb L) ∧ Aside0 (Below w0.heap.size w0 wr) ∧ Aside0 (w.heap.size ≤ wr.heap.size))
    case atStart => exact ⟨k0, k0 + 1, xs, rfl, by go_num, ⟨HK.out⟩, ⟨by omega⟩, ⟨HR1.out⟩, ⟨HB1.out⟩, ⟨HZ.out⟩⟩
    case round =>
      obtain ⟨i, j, L, rfl, rfl, HKk, HM, HRr, HBr, HZr⟩ := hrel
      have hlen := HKk.out.len
      have hij := HKk.out.lt
      have hjn := HKk.out.le
      by_cases hlt : j < xs.length
      · have hltz : (j : Int) < (xs.length : Int) := by omega
        obtain ⟨y, hy⟩ : ∃ y, xs[j]? = some y := ⟨_, List.getElem?_eq_getElem hlt⟩
        have hyL : L[j]? = some y := by rw [HKk.out.high j (Nat.le_refl _)]; exact hy
        obtain ⟨cx0, cx1, cx2, fx0, fx1, fx2⟩ := HRr.out.at0 hyL
        have hcall : ∀ W, Calls Tryz.prog g (#[.agg #[.string y.f0, .string y.f1, .bool y.f2]] ++ lb) W fun e w' => e = .returned (.bool (p y)) ∧ Below W.heap.size W w' := fun W => HP.out W y
        cases hq : p y with
        | true =>
          rw [hq] at hcall
          go_wp2_with (go_at_fn g; refine (hcall _).mono ?_; rintro e w' ⟨rfl, hb'⟩)
          have hgr : gb < wr.heap.size := by have := HG.out; have := HZr.out; omega
          have hbA : Below wr.heap.size wr w' := below_step (below_alloc (Below.refl _ wr) _) hb'
          go_roundg (xs.length - (j + 1))
          case measure => have := HM.out; omega
          case rel => exact ⟨i, j + 1, L, rfl, by go_num, ⟨HKk.out.skip hy hq⟩, ⟨Nat.le_refl _⟩, ⟨HRr.out.below hgr hbA⟩, ⟨below_step HBr.out hbA⟩, ⟨Nat.le_trans HZr.out hbA.size⟩⟩
        | false =>
          rw [hq] at hcall
          have hgr : gb < wr.heap.size := by have := HG.out; have := HZr.out; omega
          have hiL : i < L.length := by omega
          have hltI : (i : Int) < (xs.length : Int) := by omega
          go_wp2_with (go_at_fn g; refine (hcall _).mono ?_; rintro e w' ⟨rfl, hb'⟩; have hbA : Below wr.heap.size wr w' := below_step (below_alloc (Below.refl _ wr) _) hb'; have HRn := Aside0.mk (HRr.out.below hgr hbA); obtain ⟨dx0, dx1, dx2, gx0, gx1, gx2⟩ := HRn.out.at0 (List.getElem?_eq_getElem hiL); have vx0 := (hb'.cell (p := ⟨wr.heap.size, 0, none⟩) (by simp)).trans (show _ = some _ by simp; rfl); have vx1 := (hb'.cell (p := ⟨wr.heap.size, 1, none⟩) (by simp)).trans (show _ = some _ by simp; rfl); have vx2 := (hb'.cell (p := ⟨wr.heap.size, 2, none⟩) (by simp)).trans (show _ = some _ by simp; rfl))
          have hRs := HRn.out.set i hiL y
          have hws : (((w'.setCell ⟨gb, i * 3, none⟩ (.string y.f0)).setCell ⟨gb, i * 3 + 1, none⟩ (.string y.f1)).setCell ⟨gb, i * 3 + 2, none⟩ (.bool y.f2)) = w'.setCells gb (i * 3) (enc44 y) := rfl
          rw [hws]
          have hbS := below_sets h0 (enc44 y) (i * 3) (below_step HBr.out hbA)
          have hzS : (w'.setCells gb (i * 3) (enc44 y)).heap.size = w'.heap.size := (setCells_same gb (enc44 y) (i * 3) w').2.2.2
          go_roundg (xs.length - (j + 1))
          case measure => have := HM.out; omega
          case rel => exact ⟨i + 1, j + 1, L.set i y, by go_num, by go_num, ⟨HKk.out.keep hy hq⟩, ⟨Nat.le_refl _⟩, ⟨hRs⟩, ⟨hbS⟩, ⟨by rw [hzS]; exact Nat.le_trans HZr.out hbA.size⟩⟩
      · obtain rfl : j = xs.length := by omega
        have hltz : ¬ (xs.length : Int) < (xs.length : Int) := by omega
        obtain ⟨vs, hcl⟩ := run_clear3 wr gb i (xs.length - i) (cap - i) L HRr.out (by omega) (by omega)
        have hlow2 := HKk.out.low
        rw [List.take_of_length_le (Nat.le_refl _)] at hlow2
        have hfl : (xs.filter fun x => !p x).length = i := by rw [← hlow2, List.length_take]; omega
        have HL := Aside0.mk hlow2
        have HF := Aside0.mk hfl
        clear hlow2 hfl
        go_wp2
        go_ret
        rw [HF.out, ← HL.out]
        refine ⟨rfl, HRr.out.cut i vs, below_sets h0 vs (i * 3) HBr.out, ?_⟩
        rw [(setCells_same gb vs (i * 3) wr).2.2.2]
        exact HZr.out
theorem info44U : (Tryz.prog.info? 44).map (fun i => (i.zero, i.size, i.bytes)) = some (some (.agg #[(.string ⟨#[]⟩), (.string ⟨#[]⟩), (.bool false)]), 3, 40) := by kernel_rfl
theorem own3_parts {w : World} {base g n cap : Nat} {xs : List S44} (h : Kd.R k44 44 w base (fun _ => True) (.slice (some ⟨g, 0, none⟩) n cap) xs) : n = xs.length ∧ base ≤ g ∧ xs.length ≤ cap ∧ cap ≤ maxLen ∧ Row3 w g xs ∧ ∃ cur, w.heap[g]? = some (.cells cur 44 (0, 0)) ∧ cur.size = cap * 3 := by
  obtain ⟨_, inner, ⟨hlen, hor⟩, hreps⟩ := h
  replace hreps : Reps _ 3 xs inner := hreps
  rcases hor with ⟨e, _⟩ | ⟨g', cap', cur, e, hg, hh, hnc, hcm, hsz, htk⟩
  · simp at e
  · replace hsz : cur.size = cap' * 3 := hsz
    replace htk : cur.toList.take (xs.length * 3) = inner := htk
    simp only [Value.slice.injEq, Option.some.injEq, Addr.mk.injEq, and_true, true_and] at e
    obtain ⟨rfl, rfl, rfl⟩ := e
    refine ⟨rfl, hg, hnc, hcm, ?_, cur, hh, hsz⟩
    intro i x hx j u hu
    have hi := (List.getElem?_eq_some_iff.1 hx).1
    have hj : j < 3 := by have := (List.getElem?_eq_some_iff.1 hu).1; simpa [enc44] using this
    have hM := k44_openM (hreps.2 i x hx)
    have e1 : ((inner.drop (i * 3)).take 3)[j]? = some u := by rw [hM]; exact hu
    rw [List.getElem?_take, if_pos hj, List.getElem?_drop, ← htk, List.getElem?_take, if_pos (by omega)] at e1
    have e2 : cur[i * 3 + j]? = some u := by rw [← Array.getElem?_toList]; exact e1
    exact ⟨by simp [World.cell?, hh, e2], by simp [World.frozen?, hh]⟩
theorem own3_mk {w : World} {base g cap : Nat} {xs : List S44} {cur : Array Value} (hg : base ≤ g) (hn : xs.length ≤ cap) (hm : cap ≤ maxLen) (hr : Row3 w g xs) (hh : w.heap[g]? = some (.cells cur 44 (0, 0))) (hs : cur.size = cap * 3) : Kd.R k44 44 w base (fun _ => True) (.slice (some ⟨g, 0, none⟩) xs.length cap) xs := by
  have hcl : cur.toList.length = cap * 3 := by simpa using hs
  have hlen : (cur.toList.take (xs.length * 3)).length = xs.length * 3 := by rw [List.length_take, hcl]; omega
  refine ⟨fun _ _ => trivial, cur.toList.take (xs.length * 3), ⟨hlen, .inr ⟨g, cap, cur, rfl, hg, hh, hn, hm, hs, rfl⟩⟩, hlen, ?_⟩
  intro i x hx
  have hi := (List.getElem?_eq_some_iff.1 hx).1
  have e : ((cur.toList.take (xs.length * 3)).drop (i * 3)).take 3 = enc44 x := by
    apply List.ext_getElem?
    intro j
    by_cases hj : j < 3
    · obtain ⟨u, hu⟩ : ∃ u, (enc44 x)[j]? = some u := ⟨_, List.getElem?_eq_getElem (by show j < 3; exact hj)⟩
      have hc := (hr i x hx j u hu).1
      rw [hu, List.getElem?_take, if_pos hj, List.getElem?_drop, List.getElem?_take, if_pos (by omega), Array.getElem?_toList]
      simpa [World.cell?, hh] using hc
    · rw [List.getElem?_eq_none (by rw [List.length_take]; omega), List.getElem?_eq_none (by show 3 ≤ j; omega)]
  show k44.M _ _ _ x (((cur.toList.take (xs.length * 3)).drop (i * 3)).take 3)
  rw [e]
  exact k44_mkM _ _ _ x
/-- One cell of one element is laid. -/
theorem Row3.put {w : World} {g : Nat} {xs : List S44} (h : Row3 w g xs) {i : Nat} {x : S44} (hx : xs[i]? = some x) (y : S44) (j0 : Nat) (v : Value) (hj0 : (enc44 y)[j0]? = some v) (hy : ∀ j, j ≠ j0 → (enc44 y)[j]? = (enc44 x)[j]?) : Row3 (w.setCell ⟨g, i * 3 + j0, none⟩ v) g (xs.set i y) := by
  intro k z hk j u hu
  have hi := (List.getElem?_eq_some_iff.1 hx).1
  have hj : j < 3 := by have := (List.getElem?_eq_some_iff.1 hu).1; simpa [enc44] using this
  have hj0' : j0 < 3 := by have := (List.getElem?_eq_some_iff.1 hj0).1; simpa [enc44] using this
  rw [World.frozen?_setCell]
  by_cases e : i = k
  · subst e
    rw [List.getElem?_set_self hi, Option.some.injEq] at hk
    subst hk
    obtain ⟨u0, hu0⟩ : ∃ u0, (enc44 x)[j]? = some u0 := ⟨_, List.getElem?_eq_getElem (by show j < 3; exact hj)⟩
    have h0 := h i x hx j u0 hu0
    by_cases ej : j = j0
    · subst ej
      refine ⟨?_, h0.2⟩
      rw [hj0] at hu
      obtain rfl := Option.some.inj hu
      exact World.cell?_setCell_same _ _ _ h0.1
    · rw [hy j ej, hu0] at hu
      obtain rfl := Option.some.inj hu
      rw [World.cell?_setCell_other _ _ _ _ (by first | (simp; done) | (simp; omega))]
      exact h0
  · rw [List.getElem?_set_ne e] at hk
    rw [World.cell?_setCell_other _ _ _ _ (by first | (simp; done) | (simp; omega))]
    exact h k z hk j u hu
theorem put3 {w : World} {base g n cap : Nat} {xs : List S44} (h : Kd.R k44 44 w base (fun _ => True) (.slice (some ⟨g, 0, none⟩) n cap) xs) {i : Nat} {x : S44} (hx : xs[i]? = some x) (y : S44) (j0 : Nat) (v : Value) (hj0 : (enc44 y)[j0]? = some v) (hy : ∀ j, j ≠ j0 → (enc44 y)[j]? = (enc44 x)[j]?) :
    Kd.R k44 44 (w.setCell ⟨g, i * 3 + j0, none⟩ v) base (fun _ => True) (.slice (some ⟨g, 0, none⟩) n cap) (xs.set i y) := by
  obtain ⟨rfl, hg, hn, hm, hr, cur, hh, hs⟩ := own3_parts h
  have := own3_mk (xs := xs.set i y) hg (by rw [List.length_set]; exact hn) hm (hr.put hx y j0 v hj0 hy) (Go.Lib.heap_setCell_same (i := i * 3 + j0) hh v) (by simpa using hs)
  rwa [List.length_set] at this
set_option maxHeartbeats 4000000 in
set_option maxRecDepth 100000 in
/-- slices.Clone at ranges. -/
theorem clone_rng (xs : List S44) (A : Option Addr) (c : Nat) (w : World) (hC : Kd.C k44 w A xs.length xs) (hl : xs.length * 40 ≤ 140737488355328) :
    Calls Tryz.prog 70 #[.slice A xs.length c] w fun e w' => (A = none ∧ e = .returned (.slice none 0 0) ∧ w' = w) ∨ A ≠ none ∧ ∃ g cap, e = .returned (.slice (some ⟨g, 0, none⟩) xs.length cap) ∧ w.heap.size ≤ g ∧ g < w'.heap.size ∧ xs.length ≤ cap ∧ Row3 w' g xs ∧ Below w.heap.size w w' := by
  cases A with
  | none =>
    clear hC
    have q53 : ∀ (w : World) (a : Option Addr) (n c n' c' : Nat), (binOp .eql 70 (.slice a n c) (.slice none n' c')).run Tryz.prog w = .ok (.bool a.isNone) w := fun w a n c n' c' => Go.Lib.run_eql_slice_nil w _ _ a n c n' c' Tryz.underlying70
    have u53 : ∀ w, Sem.run Tryz.prog (underlying 70) w = .ok (TypeDesc.slice 44) w := run_underlying Tryz.underlying70
    go_enter Tryz.func70, Tryz.ntmps70
    go_wp2
    go_ret
    first | exact .inl ⟨rfl, rfl, rfl⟩ | simp
  | some ad =>
    obtain ⟨inner, hrep, hcells⟩ := ReadsRow.inner_ hC
    replace hrep : Reps (k44.K w) 3 xs inner := hrep
    have hlen := hrep.1
    have hone : ∀ u ∈ inner, u.oneCell' = true := by
      intro u hu
      obtain ⟨t, ht, e⟩ := List.getElem_of_mem hu
      have hk : t / 3 < xs.length := by omega
      have hK := k44_open (hrep.2 (t / 3) _ (List.getElem?_eq_getElem hk))
      have e1 : ((inner.drop (t / 3 * 3)).take 3)[t % 3]? = some u := by rw [List.getElem?_take, if_pos (by omega), List.getElem?_drop, show t / 3 * 3 + t % 3 = t by omega, List.getElem?_eq_getElem ht, e]
      rw [hK] at e1
      have h3 : t % 3 = 0 ∨ t % 3 = 1 ∨ t % 3 = 2 := by omega
      rcases h3 with q | q | q <;> rw [q] at e1 <;> (obtain rfl := Option.some.inj e1) <;> rfl
    have HI := Aside0.mk hrep
    have HC := Aside0.mk hcells
    have HL := Aside0.mk hlen
    have H1 := Aside0.mk hone
    obtain ⟨i0, hi, hz0, hz1, hz2⟩ := info_parts info44U
    clear hC hrep hcells hone hlen
    have q53 : ∀ (w : World) (a : Option Addr) (n c n' c' : Nat), (binOp .eql 70 (.slice a n c) (.slice none n' c')).run Tryz.prog w = .ok (.bool a.isNone) w := fun w a n c n' c' => Go.Lib.run_eql_slice_nil w _ _ a n c n' c' Tryz.underlying70
    have u53 : ∀ w, Sem.run Tryz.prog (underlying 70) w = .ok (TypeDesc.slice 44) w := run_underlying Tryz.underlying70
    go_enter Tryz.func70, Tryz.ntmps70
    go_wp2_with (at_builtin; refine wpList_append_own _ rfl _ _ 70 rfl w.heap.size 44 i0 (.agg #[(.string ⟨#[]⟩), (.string ⟨#[]⟩), (.bool false)]) 3 40 Tryz.underlying70 hi hz0 hz1 hz2 rfl (by decide) _ _ _ rfl (World.ownsRow_made w #[] 0 (Nat.le_refl _) (Nat.zero_le _) rfl) ad xs.length c inner rfl ?qc1 ?qc2 ?qc3 ?qc4 ?qc5 ?qc6 ?_)
    case qc1 => exact HL.out
    case qc2 => intro j u hj; exact Go.Lib.cell?_alloc_some _ (HC.out j u hj)
    case qc3 => exact H1.out
    case qc4 => unfold maxLen; omega
    case qc5 => omega
    case qc6 => simp
    intro v' w1 hown hgrow hnil
    go_wp2
    go_ret
    have hne : v' ≠ .slice none 0 0 := fun e => by first | exact hnil e | (have := (hnil.1 e).1; simp at this)
    have hown2 : w1.ownsRow w.heap.size 44 3 v' xs.length inner := by simpa using hown
    have hR : Kd.R k44 44 w1 w.heap.size (fun _ => True) v' xs := ⟨fun _ _ => trivial, inner, hown2, HI.out.imp_ fun p cs hp => by rw [k44_open hp]; exact k44_mkM _ _ _ p⟩
    have hb : Below w.heap.size w w1 := ((Below.refl _ w).alloc (Nat.le_refl _) _).grown hgrow (by simp) (by intro k hk; simp [Value.ownBlock] at hk; omega)
    rcases hown2.2 with ⟨e, _⟩ | ⟨g, cap, cur, rfl, hg, hh, hnc, _⟩
    · exact absurd e hne
    · obtain ⟨_, _, hcap, _, hrow, _, _, _⟩ := own3_parts hR
      exact .inr ⟨by simp, g, cap, by simp, hg, blk_lt hh, hcap, hrow, hb⟩
theorem cmpB_lt : ∀ a b : List UInt8, Lib.compareBytes a b < 0 ↔ a < b
  | [], [] => by simp [Lib.compareBytes]
  | [], _ :: _ => by simp [Lib.compareBytes]
  | _ :: _, [] => by simp [Lib.compareBytes]
  | x :: a, y :: b => by
    unfold Lib.compareBytes
    rw [List.cons_lt_cons_iff]
    by_cases h1 : x < y
    · simp [h1]
    · by_cases h2 : y < x
      · have : ¬ x = y := fun e => by subst e; exact h1 h2
        simp [h1, h2, this]
      · have : x = y := UInt8.le_antisymm (UInt8.not_lt.1 h2) (UInt8.not_lt.1 h1)
        simp [h1, h2, this, cmpB_lt a b]
/-- How ranges are sorted: by their first key. -/
def lowCmp (x y : S44) : Int := Lib.compareBytes x.f0.data.toList y.f0.data.toList
theorem lowCmp_lt (x y : S44) : Go.Proofs.ltOf lowCmp x y = true ↔ x.f0.data.toList < y.f0.data.toList := by
  unfold Go.Proofs.ltOf lowCmp
  rw [decide_eq_true_iff, cmpB_lt]
theorem lowCmp_swo : Go.Sort.SWO (Go.Proofs.ltOf lowCmp) := by
  have e : ∀ x y, Go.Proofs.ltOf lowCmp x y = false ↔ ¬ x.f0.data.toList < y.f0.data.toList := fun x y => by rw [← lowCmp_lt, Bool.not_eq_true]
  refine ⟨fun x => (e x x).2 (List.lt_irrefl _), fun x y z h1 h2 => (lowCmp_lt x z).2 (List.lt_trans ((lowCmp_lt x y).1 h1) ((lowCmp_lt y z).1 h2)), fun x y z h1 h2 => (e x z).2 ?_⟩
  exact List.not_lt.2 (List.le_trans (List.not_lt.1 ((e y z).1 h2)) (List.not_lt.1 ((e x y).1 h1)))
theorem grow_two (w : World) (a b : Obj) : ∃ q os, (w.alloc a).alloc b = Go.Sort.grow (w.drewN q) os := by
  have e2 : ∀ (h : Array Obj), (h.push a).push b = h ++ #[a, b] := fun h => by apply Array.ext'; simp
  refine ⟨0, #[a, b], ?_⟩
  show { w with heap := (w.heap.push a).push b } = _
  rw [e2]
  rfl
set_option maxHeartbeats 4000000 in
set_option maxRecDepth 100000 in
/-- code.Union$1: how two ranges stand. -/
theorem low_rng (x y : S44) (w : World) : Calls Tryz.prog 73 #[.agg (enc44 x).toArray, .agg (enc44 y).toArray] w fun e w' => e = .returned (.int .i64 (lowCmp x y)) ∧ ∃ q os, w' = Go.Sort.grow (w.drewN q) os := by
  unfold enc44
  go_enter Tryz.func73, Tryz.ntmps73
  go_wp2_with (go_at_call 74; refine (Tryz.strings_Compare _ _ _).mono ?_; rintro e w' ⟨rfl, rfl⟩)
  go_ret
  refine ⟨rfl, ?_⟩
  exact grow_two w _ _
instance instInhS44U : Inhabited S44 := ⟨⟨⟨#[]⟩, ⟨#[]⟩, false⟩⟩
theorem Row3.holds {w : World} {g : Nat} {xs : List S44} (h : Row3 w g xs) : Go.Sort.HoldsK enc44 3 w g 0 xs.toArray := by
  intro j hj
  rw [Go.Sort.size_flatK] at hj
  have hj' : j < xs.length * 3 := by simpa using hj
  rw [Go.Sort.get_flatK _ _ _ _ hj]
  have hi : j / 3 < xs.length := by omega
  have e1 : xs.toArray[j / 3]! = xs[j / 3] := by simp [hi]
  have h3 : j % 3 < (enc44 xs[j / 3]).length := by show j % 3 < 3; omega
  have := h (j / 3) _ (List.getElem?_eq_getElem hi) (j % 3) _ (List.getElem?_eq_getElem h3)
  rw [show j / 3 * 3 + j % 3 = 0 + j by omega] at this
  rw [e1, getElem!_pos (enc44 xs[j / 3]) (j % 3) h3]
  exact this
theorem Row3.of_holds {w : World} {g : Nat} {d : Array S44} (h : Go.Sort.HoldsK enc44 3 w g 0 d) : Row3 w g d.toList := by
  intro i x hx j u hu
  have hj : j < 3 := by have := (List.getElem?_eq_some_iff.1 hu).1; simpa [enc44] using this
  have hi : i < d.size := by have := (List.getElem?_eq_some_iff.1 hx).1; simpa using this
  have := h.cell hi hj
  rw [Nat.zero_add] at this
  have e1 : d[i]! = x := by
    rw [getElem!_pos d i hi]
    have := (List.getElem?_eq_some_iff.1 hx).2
    simpa using this
  have h3 : j < (enc44 x).length := by show j < 3; exact hj
  have e2 : (enc44 x)[j]! = u := by
    rw [getElem!_pos (enc44 x) j h3]
    exact (List.getElem?_eq_some_iff.1 hu).2
  rw [e1, e2] at this
  exact this
theorem sort_below {w : World} {g B : Nat} (hg : B ≤ g) (hgw : g < w.heap.size) (m : Nat) (d : Array S44) (os : Array Obj) : Below B w (Go.Proofs.sortWorldK enc44 3 w g 0 m d os) := by
  refine ⟨rfl, rfl, rfl, Go.Proofs.size_sortWorldK_c enc44 3 w g 0 m d os, fun k hk => ?_⟩
  show ((w.heap.modify g _) ++ os)[k]? = w.heap[k]?
  rw [Array.getElem?_append_left (by simp; omega), Array.getElem?_modify, if_neg (by omega)]
/-- slices.SortFunc at ranges, by their first keys. -/
theorem sorted_rng (w0 : World) (gb cap : Nat) (xs : List S44) (w : World) (hR : Row3 w gb xs) (hl : xs.length < 4611686018427387904) (h0 : w0.heap.size ≤ gb) (hgb : gb < w.heap.size) (hB : Below w0.heap.size w0 w) :
    Calls Tryz.prog 72 #[.slice (some ⟨gb, 0, none⟩) xs.length cap, .func (.func 73) #[] #[]] w fun e w' => e = .returned (.tuple #[]) ∧ ∃ ys, ys.Perm xs ∧ ys.Pairwise (fun a b => ¬ b.f0.data.toList < a.f0.data.toList) ∧ Row3 w' gb ys ∧ Below w0.heap.size w0 w' ∧ w.heap.size ≤ w'.heap.size := by
  have hH := hR.holds
  have h := Go.Proofs.Tryz.sortRng enc44 (fun _ => rfl) (fun x v hv => by simp only [enc44, List.mem_cons, List.not_mem_nil, or_false] at hv; rcases hv with rfl | rfl | rfl <;> rfl) lowCmp lowCmp_swo 73 #[] gb 0 cap xs.toArray w (enters_of Tryz.func73 (by kernel_rfl) rfl) (fun m os dk hs x y => low_rng x y _) hH hgb (by simpa using hl)
  have e0 : xs.toArray.size = xs.length := by simp
  rw [e0] at h
  refine h.mono ?_
  rintro e w' ⟨rfl, d', n, os, hperm, hsort, rfl⟩
  have hsz : d'.size = xs.length := by have := hperm.1; simpa using this
  refine ⟨rfl, d'.toList, ?_, ?_, ?_, Below.trans hB (sort_below h0 hgb n d' os), Go.Proofs.size_sortWorldK_c enc44 3 w gb 0 n d' os⟩
  · have := hperm.2.2
    have e3 : d'.extract 0 xs.length = d' := by rw [← hsz]; simp
    have e4 : xs.toArray.extract 0 xs.length = xs.toArray := by rw [← e0]; simp
    rw [e3, e4] at this
    simpa using this
  · rw [List.pairwise_iff_getElem]
    intro i j hi hj hij
    have hi' : i < d'.size := by simpa using hi
    have hj' : j < d'.size := by simpa using hj
    have := hsort i j (Nat.zero_le _) hij (by rw [← hsz]; exact hj')
    rw [getElem!_pos d' i hi', getElem!_pos d' j hj'] at this
    intro hlt
    have h2 := (lowCmp_lt d'[j] d'[i]).2 (by simpa using hlt)
    rw [h2] at this
    cases this
  · exact Row3.of_holds (Go.Proofs.holdsK_sortWorldK_c enc44 3 w gb 0 _ d' n os hH hgb (by rw [hsz, e0]))
end Go.Proofs.YtldlenjfpjihdaaGreat.PA
end
section
namespace Go.Proofs.YtldlenjfpjihdaaGreat.PU
open Go.Proofs.YtldlenjfpjihdaaGreat.PS
set_option linter.unusedSimpArgs false
set_option linter.unusedVariables false
/-- The bytes of a text. -/
abbrev bs (s : ByteArray) : List UInt8 := s.data.toList
abbrev mt : ByteArray := ⟨#[]⟩
theorem lt_irrefl' (a : List UInt8) : ¬ a < a := List.lt_irrefl a
theorem lt_tri (a b : List UInt8) : a < b ∨ a = b ∨ b < a := by
  by_cases h : a < b
  · exact .inl h
  · by_cases h2 : b < a
    · exact .inr (.inr h2)
    · exact .inr (.inl (List.le_antisymm (List.not_lt.1 h2) (List.not_lt.1 h)))
theorem bs_inj {a b : ByteArray} (h : bs a = bs b) : a = b := by
  cases a; cases b; simp [bs] at h; rw [h]
/-- Is no key in a range? -/
def emptyR (r : S44) : Bool := !r.f2 && !decide (bs r.f0 < bs r.f1)
def cleanR (r : S44) : S44 := if r.f2 then ⟨r.f0, mt, true⟩ else r
/-- One range more. -/
def stepU (out : List S44) (r0 : S44) : List S44 :=
  let r := cleanR r0
  match out.getLast? with
  | none => [r]
  | some l =>
    if l.f2 then out
    else if bs l.f1 < bs r.f0 then out ++ [r]
    else if r.f2 then out.dropLast ++ [⟨l.f0, mt, true⟩]
    else out.dropLast ++ [⟨l.f0, Go.Lib.maxS l.f1 r.f1, false⟩]
def keyLe (a b : S44) : Prop := ¬ bs b.f0 < bs a.f0
def sortedR (l : List S44) : Prop := l.Pairwise keyLe
theorem maxS_comm3 (a b c : ByteArray) : Go.Lib.maxS (Go.Lib.maxS a b) c = Go.Lib.maxS (Go.Lib.maxS a c) b := by
  unfold Go.Lib.maxS
  have t := fun x y : List UInt8 => lt_tri x y
  have tr : ∀ {x y z : List UInt8}, x < y → y < z → x < z := fun h g => List.lt_trans h g
  have asy : ∀ {x y : List UInt8}, x < y → ¬ y < x := fun h => List.lt_asymm h
  by_cases h1 : bs a < bs b <;> by_cases h2 : bs a < bs c <;> simp only [h1, h2, if_true, if_false]
  · rcases t (bs b) (bs c) with h | h | h
    · rw [if_pos h, if_neg (asy h)]
    · have := bs_inj h; subst this; simp [lt_irrefl']
    · rw [if_neg (asy h), if_pos h]
  · by_cases h3 : bs b < bs c
    · exact absurd (tr h1 h3) h2
    · simp [h3, h1]
  · by_cases h3 : bs c < bs b
    · exact absurd (tr h2 h3) h1
    · simp [h3, h2]
theorem maxS_comm (a b : ByteArray) : Go.Lib.maxS a b = Go.Lib.maxS b a := by
  unfold Go.Lib.maxS
  rcases lt_tri (bs a) (bs b) with h | h | h
  · rw [if_pos h, if_neg (List.lt_asymm h)]
  · have := bs_inj h; subst this; rfl
  · rw [if_neg (List.lt_asymm h), if_pos h]
theorem le_maxS (a b : ByteArray) : ¬ bs (Go.Lib.maxS a b) < bs a := by
  unfold Go.Lib.maxS; split
  · rename_i h; exact List.lt_asymm h
  · exact lt_irrefl' _
theorem not_lt_of (a b c : List UInt8) (h : ¬ b < a) (g : ¬ c < b) : ¬ c < a := fun k => by
  rcases lt_tri a b with x | x | x
  · rcases lt_tri b c with y | y | y
    · exact List.lt_asymm (List.lt_trans x y) k
    · subst y; exact List.lt_asymm x k
    · exact g y
  · subst x; exact g k
  · exact h x
/-- Two ranges that begin at one place may be taken in either order. -/
theorem stepU_comm (out : List S44) (a b : S44) (hk : a.f0 = b.f0) (ha : emptyR a = false) (hb : emptyR b = false) : stepU (stepU out a) b = stepU (stepU out b) a := by
  have ea : a.f2 = true ∨ (a.f2 = false ∧ bs a.f0 < bs a.f1) := by
    cases h : a.f2 <;> simp [emptyR, h] at ha ⊢; exact ha
  have eb : b.f2 = true ∨ (b.f2 = false ∧ bs b.f0 < bs b.f1) := by
    cases h : b.f2 <;> simp [emptyR, h] at hb ⊢; exact hb
  rcases List.eq_nil_or_concat out with rfl | ⟨o, l, rfl⟩
  · rcases ea with h1 | ⟨h1, g1⟩ <;> rcases eb with h2 | ⟨h2, g2⟩
    · simp [stepU, cleanR, h1, h2, hk]
    · have : ¬ bs b.f1 < bs b.f0 := List.lt_asymm g2
      simp [stepU, cleanR, h1, h2, hk, this]
    · have : ¬ bs a.f1 < bs b.f0 := by rw [← hk]; exact List.lt_asymm g1
      simp [stepU, cleanR, h1, h2, hk, this]
    · have t1 : ¬ bs a.f1 < bs b.f0 := by rw [← hk]; exact List.lt_asymm g1
      have t2 : ¬ bs b.f1 < bs b.f0 := List.lt_asymm g2
      simp [stepU, cleanR, h1, h2, hk, t1, t2, maxS_comm]
  · by_cases hl : l.f2 = true
    · simp [stepU, hl]
    · have hl' : l.f2 = false := by simpa using hl
      by_cases hlt : bs l.f1 < bs a.f0
      · have hlt2 : bs l.f1 < bs b.f0 := by rw [← hk]; exact hlt
        rcases ea with h1 | ⟨h1, g1⟩ <;> rcases eb with h2 | ⟨h2, g2⟩
        · simp [stepU, cleanR, h1, h2, hk, hl', hlt2]
        · have : ¬ bs b.f1 < bs b.f0 := List.lt_asymm g2
          simp [stepU, cleanR, h1, h2, hk, this, hl', hlt2]
        · have : ¬ bs a.f1 < bs b.f0 := by rw [← hk]; exact List.lt_asymm g1
          simp [stepU, cleanR, h1, h2, hk, this, hl', hlt2]
        · have t1 : ¬ bs a.f1 < bs b.f0 := by rw [← hk]; exact List.lt_asymm g1
          have t2 : ¬ bs b.f1 < bs b.f0 := List.lt_asymm g2
          simp [stepU, cleanR, h1, h2, hk, t1, t2, maxS_comm, hl', hlt2]
      · have hlt2 : ¬ bs l.f1 < bs b.f0 := by rw [← hk]; exact hlt
        have n1 : ¬ bs (Go.Lib.maxS l.f1 a.f1) < bs b.f0 := not_lt_of _ _ _ hlt2 (le_maxS _ _)
        have n2 : ¬ bs (Go.Lib.maxS l.f1 b.f1) < bs b.f0 := not_lt_of _ _ _ hlt2 (le_maxS _ _)
        rcases ea with h1 | ⟨h1, g1⟩ <;> rcases eb with h2 | ⟨h2, g2⟩
        · simp [stepU, cleanR, h1, h2, hk, hl', hlt2]
        · simp [stepU, cleanR, h1, h2, hk, hl', hlt2, n1, n2]
        · simp [stepU, cleanR, h1, h2, hk, hl', hlt2, n1, n2]
        · simp [stepU, cleanR, h1, h2, hk, hl', hlt2, n1, n2, maxS_comm3]
theorem fold_front : ∀ (p s : List S44) (a : S44) (out : List S44), (∀ x ∈ p, x.f0 = a.f0 ∧ emptyR x = false) → emptyR a = false → (p ++ a :: s).foldl stepU out = (a :: (p ++ s)).foldl stepU out
  | [], s, a, out, _, _ => rfl
  | x :: p, s, a, out, hp, ha => by
    have ih := fold_front p s a (stepU out x) (fun y hy => hp y (by simp [hy])) ha
    obtain ⟨h1, h2⟩ := hp x (by simp)
    simp only [List.cons_append, List.foldl_cons] at ih ⊢
    rw [ih, stepU_comm out x a h1 h2 ha]
/-- Sorted by where they begin, the ranges are united to the same, however equals stand. -/
theorem fold_perm : ∀ (n : Nat) (l m : List S44) (out : List S44), l.length = n → l.Perm m → sortedR l → sortedR m → (∀ x ∈ l, emptyR x = false) → l.foldl stepU out = m.foldl stepU out
  | 0, l, m, out, hn, hp, _, _, _ => by
    obtain rfl := List.length_eq_zero_iff.1 hn
    obtain rfl := (List.Perm.nil_eq hp).symm
    rfl
  | n + 1, [], m, out, hn, _, _, _, _ => by simp at hn
  | n + 1, a :: t, m, out, hn, hp, hl, hm, he => by
    have ham : a ∈ m := hp.subset (by simp)
    obtain ⟨p, s, rfl⟩ := List.append_of_mem ham
    have hpt : t.Perm (p ++ s) := (List.Perm.cons_inv ((hp.trans List.perm_middle)))
    have hka : ∀ x ∈ p, x.f0 = a.f0 ∧ emptyR x = false := by
      intro x hx
      have hxt : x ∈ t := hpt.symm.subset (by simp [hx])
      have h1 : keyLe a x := (List.pairwise_cons.1 hl).1 x hxt
      have h2 : keyLe x a := (List.pairwise_append.1 hm).2.2 x hx a (by simp)
      refine ⟨?_, he x (by simp [hxt])⟩
      unfold keyLe at h1 h2
      rcases lt_tri (bs x.f0) (bs a.f0) with h | h | h
      · exact absurd h h1
      · exact bs_inj h
      · exact absurd h h2
    rw [fold_front p s a out hka (he a (by simp))]
    simp only [List.foldl_cons]
    refine fold_perm n t (p ++ s) _ (by simpa using hn) hpt (List.pairwise_cons.1 hl).2 ?_ (fun x hx => he x (by simp [hx]))
    unfold sortedR at hm ⊢
    rw [List.pairwise_append] at hm ⊢
    exact ⟨hm.1, (List.pairwise_cons.1 hm.2.1).2, fun x hx y hy => hm.2.2 x hx y (by simp [hy])⟩
/-- Taking in by where they begin: behind all that do not begin later. -/
def insR (x : S44) : List S44 → List S44
  | [] => [x]
  | y :: l => if bs x.f0 < bs y.f0 then x :: y :: l else y :: insR x l
def sortR : List S44 → List S44 := fun l => l.foldl (fun acc x => insR x acc) []
theorem insR_perm (x : S44) : ∀ l, (insR x l).Perm (x :: l)
  | [] => List.Perm.refl _
  | y :: l => by
    unfold insR; split
    · exact List.Perm.refl _
    · exact ((insR_perm x l).cons y).trans (List.Perm.swap x y l)
theorem insR_sorted (x : S44) : ∀ l, sortedR l → sortedR (insR x l)
  | [], _ => by simp [insR, sortedR]
  | y :: l, h => by
    unfold insR
    have h' := List.pairwise_cons.1 h
    split
    · rename_i hlt
      refine List.pairwise_cons.2 ⟨fun z hz => ?_, h⟩
      rcases List.mem_cons.1 hz with rfl | hz
      · exact List.lt_asymm hlt
      · exact fun g => h'.1 z hz (List.lt_trans g hlt)
    · rename_i hlt
      refine List.pairwise_cons.2 ⟨fun z hz => ?_, insR_sorted x l h'.2⟩
      rcases List.mem_cons.1 ((insR_perm x l).subset hz) with rfl | hz
      · exact hlt
      · exact h'.1 z hz
theorem sortR_perm_aux : ∀ (l acc : List S44), (l.foldl (fun acc x => insR x acc) acc).Perm (acc ++ l) ∧ (sortedR acc → sortedR (l.foldl (fun acc x => insR x acc) acc))
  | [], acc => by simp
  | x :: l, acc => by
    obtain ⟨h1, h2⟩ := sortR_perm_aux l (insR x acc)
    refine ⟨h1.trans ?_, fun h => h2 (insR_sorted x acc h)⟩
    exact ((insR_perm x acc).append_right l).trans (List.perm_middle.symm)
theorem sortR_perm (l : List S44) : (sortR l).Perm l := by have := (sortR_perm_aux l []).1; rwa [List.nil_append] at this
theorem sortR_sorted (l : List S44) : sortedR (sortR l) := (sortR_perm_aux l []).2 (by simp [sortedR])
def neR (l : List S44) : List S44 := l.filter fun r => !emptyR r
/-- The least ranges of the same keys. -/
def unionR (l : List S44) : List S44 := (sortR (neR l)).foldl stepU []
theorem union_of {l m : List S44} (hp : m.Perm (neR l)) (hs : sortedR m) : m.foldl stepU [] = unionR l := by
  refine fold_perm _ m _ [] rfl (hp.trans (sortR_perm _).symm) hs (sortR_sorted _) fun x hx => ?_
  have := hp.subset hx
  unfold neR at this
  simpa using (List.mem_filter.1 this).2
def hasR (r : S44) (k : List UInt8) : Bool := !decide (k < bs r.f0) && (r.f2 || decide (k < bs r.f1))
end Go.Proofs.YtldlenjfpjihdaaGreat.PU
end
section
namespace Go.Proofs.YtldlenjfpjihdaaGreat.PA
open Go.Proofs.YtldlenjfpjihdaaGreat.PS hiding below_step bs bless_eq
open Go.RowKit Go.Proofs Go.Proofs.YtldlenjfpjihdaaGreatW.PrintWords Go.Proofs.YtldlenjfpjihdaaGreatW.PrintLast Go.Proofs.YtldlenjfpjihdaaGreatW.PrintMore Go.Proofs.YtldlenjfpjihdaaGreat.PU
attribute [local go_sem] Go.Lib.run_max_strs Go.Lib.run_min_strs
set_option linter.unusedVariables false
set_option linter.unusedSimpArgs false
theorem bless_eq (a b : ByteArray) : Op.bytesLess a.toList b.toList = decide (bs a < bs b) := by
  rw [Go.Proofs.bytesLess_eq, Go.Lib.toList_data, Go.Lib.toList_data]
theorem empty_rng (W : World) (x : S44) : Calls Tryz.prog 71 (#[.agg (enc44 x).toArray] ++ #[]) W fun e w' => e = .returned (.bool (emptyR x)) ∧ Below W.heap.size W w' := by
  have h : code_Empty.f x.f0 x.f1 x.f2 = some (emptyR x) := by
    unfold code_Empty.f emptyR
    rw [bless_eq]
    cases x.f2 <;> simp
  exact code_Empty.calls x.f0 x.f1 x.f2 _ W h
theorem none_delf (g : Nat) (lb : Array Value) (w : World) (p : S44 → Bool) (eg : ∀ args w, (callFunc g args).run Tryz.prog w = .ok (.enter g args) w)
    (hp : ∀ (W : World) (x : S44), Calls Tryz.prog g (#[.agg (enc44 x).toArray] ++ lb) W fun e w' => e = .returned (.bool (p x)) ∧ Below W.heap.size W w') :
    Calls Tryz.prog 69 #[.slice none 0 0, .func (.func g) #[] lb] w fun e w' => e = .returned (.slice none 0 0) ∧ Below w.heap.size w w' := by
  have hidx := idxf_rng p g lb eg none [] 0 w ⟨rfl, Nat.zero_le _, fun h => absurd h (Nat.lt_irrefl 0)⟩ (fun W x hb => (hp W x).mono fun e w' h => ⟨h.1, Below.trans hb (h.2.mono hb.size)⟩)
  have e1 : idxF p [] = -1 := rfl
  rw [e1] at hidx
  replace hidx : Calls Tryz.prog 77 #[.slice none 0 0, .func (.func g) #[] lb] w fun e w' => e = .returned (.int .i64 (-1)) ∧ Below w.heap.size w w' := hidx
  clear hp e1
  go_enter Tryz.func69, Tryz.ntmps69
  go_wp2_with (go_at_call 77; refine hidx.mono ?_; rintro e w' ⟨rfl, hb'⟩)
  go_ret
  exact ⟨rfl, hb'⟩
theorem none_sort (w : World) (fv : Value) : Calls Tryz.prog 72 #[.slice none 0 0, fv] w fun e w' => e = .returned (.tuple #[]) ∧ w = w' :=
  (Go.Proofs.AnyF.slices_SortFunc_none Go.Proofs.Tryz.sortR none 0 fv w).mono fun e w' h => ⟨h.1, h.2.symm⟩
set_option maxHeartbeats 4000000 in
set_option maxRecDepth 100000 in
theorem union_nil (c0 : Nat) (w : World) : Calls Tryz.prog 51 #[.slice none 0 c0] w fun e w' => e = .returned (.slice none 0 0) ∧ Below w.heap.size w w' := by
  have hcl := clone_rng [] none c0 w ⟨rfl, Nat.zero_le _, fun h => absurd h (Nat.lt_irrefl 0)⟩ (by decide)
  replace hcl : Calls Tryz.prog 70 #[.slice none 0 c0] w fun e w' => e = .returned (.slice none 0 0) ∧ w = w' := hcl.mono fun e w' h => by
    rcases h with ⟨_, h1, h2⟩ | ⟨h0, _⟩
    · exact ⟨h1, h2.symm⟩
    · exact absurd rfl h0
  have hdel := none_delf 71 #[] w emptyR (enters_of Tryz.func71 (by kernel_rfl) rfl) empty_rng
  go_enter Tryz.func51, Tryz.ntmps51
  go_wp2_with (first | (go_at_call 70; refine hcl.mono ?_; rintro e w' ⟨rfl, rfl⟩) | (go_at_call 69; refine hdel.mono ?_; rintro e w2 ⟨rfl, hb'⟩) | (go_at_call 72; refine (none_sort _ _).mono ?_; rintro e w' ⟨rfl, rfl⟩))
  go_loopg [4, 6, 7, 15] 0 (fun gg s4 s6 s7 s15 wr => s4 = .slice none 0 0 ∧ s15 = .int .i64 0 ∧ Aside0 (Below w.heap.size w wr))
  case atStart => exact ⟨rfl, rfl, ⟨by assumption⟩⟩
  case round =>
    obtain ⟨rfl, rfl, HB⟩ := hrel
    go_wp2
    go_ret
    exact ⟨rfl, HB.out⟩
/-- append(v, p), p being boxed as_ one element. -/
theorem app3 {ops : Array Oper} {rest : List Oper} {o : Oper} {a : Act} {Q : Exit → Act → World → Prop} {w0 W : World} {base n0 : Nat} (hgd : o.guard = none) (s x : Operand) (ho : o.op = .call { callee := .builtin .append, args := #[s, x], argTypes := #[70, 70] })
    (v : Value) (xs : List S44) (p : S44) (hs : a.eval s = v) (hx : a.eval x = .slice (some ⟨n0, 0, none⟩) 1 1) (hn0 : n0 = W.heap.size)
    (HO : Kd.R k44 44 W base (fun _ => True) v xs) (HB : Below base w0 W) (hbase : base ≤ W.heap.size) (hl : (xs.length + 1) * 40 ≤ 140737488355328)
    (h : ∀ v1 w1, Kd.R k44 44 w1 base (fun _ => True) v1 (xs ++ [p]) → Below base w0 w1 → wpList Tryz.prog ops Q rest (a.put o.dst v1) w1) :
    wpList Tryz.prog ops Q (o :: rest) a (W.alloc (.cells (enc44 p).toArray 44)) := by
  subst hn0
  refine Kd.R_append k44 (w0 := w0) (W := W) base hgd s x 70 44 (.agg #[(.string ⟨#[]⟩), (.string ⟨#[]⟩), (.bool false)]) 40 ho Tryz.underlying70 info44U rfl (by decide) (by omega) v xs p (enc44 p) (fun _ => True) (fun _ => False) hs hx (k44_mkM _ _ _ p) (fun _ hk => hk.elim) (fun _ _ => trivial) HO HB hbase hl ?_
  intro v1 w1 ho hb _ _
  exact h v1 w1 ho hb
theorem Row3.alloc {w : World} {g : Nat} {xs : List S44} (h : Row3 w g xs) (hg : g < w.heap.size) (o : Obj) : Row3 (w.alloc o) g xs := h.same (by show (w.heap.push o)[g]? = w.heap[g]?; rw [Array.getElem?_push, if_neg (Nat.ne_of_lt hg)])
theorem size_alloc1 (w : World) (o : Obj) : w.heap.size + 1 = (w.alloc o).heap.size := (Array.size_push o).symm
theorem own3_head {w : World} {base : Nat} {v : Value} {xs : List S44} (h : Kd.R k44 44 w base (fun _ => True) v xs) (hn : xs ≠ []) : ∃ g cap, v = .slice (some ⟨g, 0, none⟩) xs.length cap := by
  obtain ⟨_, inner, ⟨hlen, hor⟩, hreps⟩ := h
  rcases hor with ⟨_, e⟩ | ⟨g', cap', cur, e, _⟩
  · exact absurd (List.length_eq_zero_iff.1 e) hn
  · exact ⟨g', cap', e⟩
theorem stepU_len (out : List S44) (r : S44) : (stepU out r).length ≤ out.length + 1 := by
  rcases List.eq_nil_or_concat out with rfl | ⟨o, l, rfl⟩
  · simp [stepU]
  · simp only [stepU, List.getLast?_concat]
    (repeat' split) <;> simp
theorem fold_len : ∀ (l out : List S44), (l.foldl stepU out).length ≤ out.length + l.length
  | [], out => by simp
  | a :: l, out => by
    have h1 := fold_len l (stepU out a)
    have h2 := stepU_len out a
    simp only [List.foldl_cons, List.length_cons]
    omega
set_option maxHeartbeats 8000000 in
set_option maxRecDepth 100000 in
theorem union_some (l0 : List S44) (ad : Addr) (c0 : Nat) (w : World) (hC : Kd.C k44 w (some ad) l0.length l0) (hl : l0.length * 40 ≤ 140737488355328) :
    Calls Tryz.prog 51 #[.slice (some ad) l0.length c0] w fun e w' => ∃ v, e = .returned v ∧ Kd.R k44 44 w' w.heap.size (fun _ => True) v (unionR l0) ∧ Below w.heap.size w w' := by
  have hcl := clone_rng l0 (some ad) c0 w hC hl
  replace hcl : Calls Tryz.prog 70 #[.slice (some ad) l0.length c0] w fun e w' => ∃ g cap, e = .returned (.slice (some ⟨g, 0, none⟩) l0.length cap) ∧ w.heap.size ≤ g ∧ g < w'.heap.size ∧ l0.length ≤ cap ∧ Row3 w' g l0 ∧ Below w.heap.size w w' := hcl.mono fun e w' h => by
    rcases h with ⟨h0, _⟩ | ⟨_, h⟩
    · cases h0
    · exact h
  have hl2 : l0.length ≤ 4611686018427387904 := by omega
  have hfl : (neR l0).length ≤ l0.length := List.length_filter_le _ _
  have hdel := fun g cap w1 => delf_rng emptyR 71 #[] (enters_of Tryz.func71 (by kernel_rfl) rfl) w g cap l0 w1
  have hsort := fun g cap w1 => sorted_rng w g cap (neR l0) w1
  clear hC
  go_enter Tryz.func51, Tryz.ntmps51
  go_wp2_with (first | (go_at_call 70; refine hcl.mono ?_; rintro e w1 ⟨g, cap, rfl, hg, hgw, hcap, hR1, hb1⟩) | (go_at_call 69; refine (hdel _ _ _ hR1 hl2 hcap hg hb1 empty_rng).mono ?_; rintro e w2 ⟨rfl, hR2, hb2, hz2⟩; have hgw2 := Nat.lt_of_lt_of_le hgw hz2) | (go_at_call 72; refine (hsort _ _ _ hR2 (by omega) hg hgw2 hb2).mono ?_; rintro e w3 ⟨rfl, ys, hperm, hsrt, hR3, hb3, hz3⟩))
  have hn : ys.length = (List.filter (fun x => !emptyR x) l0).length := hperm.length_eq
  rw [← hn]
  have hun := union_of hperm hsrt
  have hyl : ys.length ≤ l0.length := by rw [hn]; exact hfl
  have HY := Aside0.mk hR3
  have HB3 := Aside0.mk hb3
  have HU := Aside0.mk hun
  have hgw3 : g < w3.heap.size := Nat.lt_of_lt_of_le hgw2 hz3
  clear hcl hdel hsort hR1 hb1 hR2 hb2 hz2 hgw2 hR3 hb3 hz3 hperm hsrt hun hn hfl hgw hcap
  go_loopg [4, 6, 7, 15] ys.length (fun gg s4 s6 s7 s15 wr => ∃ k : Nat, s15 = .int .i64 k ∧ k ≤ ys.length ∧ Aside0 (ys.length - k ≤ gg) ∧ Aside0 (Kd.R k44 44 wr (g + 1) (fun _ => True) s4 ((ys.take k).foldl stepU [])) ∧ Aside0 (Below (g + 1) w3 wr))
  case atStart => exact ⟨0, rfl, Nat.zero_le _, ⟨by omega⟩, ⟨Kd.R_nil _ _ _ _ _⟩, ⟨Below.refl _ _⟩⟩
  case round =>
    obtain ⟨k, rfl, hk, HM, HO, HB⟩ := hrel
    by_cases hlt : k < ys.length
    · have hltz : (k : Int) < (ys.length : Int) := by omega
      obtain ⟨y, hy⟩ : ∃ y, ys[k]? = some y := ⟨_, List.getElem?_eq_getElem hlt⟩
      obtain ⟨cx0, cx1, cx2, fx0, fx1, fx2⟩ := (HY.out.same (HB.out.block g (Nat.lt_succ_self g))).at0 hy
      have hstep : (ys.take (k + 1)).foldl stepU [] = stepU ((ys.take k).foldl stepU []) y := by rw [List.take_add_one, hy, List.foldl_append]; rfl
      have hLl : ((ys.take k).foldl stepU []).length ≤ k := by have := fold_len (ys.take k) []; rw [List.length_take] at this; simp at this; omega
      generalize (ys.take k).foldl stepU [] = L at HO hstep hLl
      have HS := Aside0.mk hstep
      have hzr : g + 1 ≤ wr.heap.size := Nat.le_trans hgw3 HB.out.size
      clear hstep hy
      obtain ⟨A, c, rfl⟩ := Kd.R_slice HO.out
      rcases List.eq_nil_or_concat L with rfl | ⟨o, l, eL⟩
      · have hl40 : (([] : List S44).length + 1) * 40 ≤ 140737488355328 := by decide
        cases hq : y.f2 with
        | true =>
          rw [hq] at cx2
          have hs : stepU [] y = [] ++ [⟨y.f0, ⟨#[]⟩, true⟩] := by unfold stepU cleanR; rw [if_pos hq]; rfl
          go_wp2_with ((with_reducible refine gate_builtin (b := .append) (xs := #[.tmp 25, .tmp 27]) rfl ?_); at_builtin; refine app3 (w0 := w3) (base := g + 1) rfl (.tmp 25) (.tmp 27) rfl (.slice A 0 c) ([] : List S44) (⟨y.f0, ⟨#[]⟩, true⟩ : S44) rfl rfl (size_alloc1 _ _) (Kd.R_alloc HO.out _) (HB.out.alloc hzr _) (Nat.le_trans hzr (by rw [← size_alloc1]; exact Nat.le_succ _)) hl40 ?_; intro v1 w4 ho hb)
          go_roundg (ys.length - (k + 1))
          case measure => have := HM.out; omega
          case rel => exact ⟨k + 1, by go_num, hlt, ⟨Nat.le_refl _⟩, ⟨by rw [HS.out, hs]; exact ho⟩, ⟨hb⟩⟩
        | false =>
          rw [hq] at cx2
          have hs : stepU [] y = [] ++ [⟨y.f0, y.f1, false⟩] := by unfold stepU cleanR; rw [if_neg (by rw [hq]; decide)]; cases y; cases hq; rfl
          go_wp2_with ((with_reducible refine gate_builtin (b := .append) (xs := #[.tmp 25, .tmp 27]) rfl ?_); at_builtin; refine app3 (w0 := w3) (base := g + 1) rfl (.tmp 25) (.tmp 27) rfl (.slice A 0 c) ([] : List S44) (⟨y.f0, y.f1, false⟩ : S44) rfl rfl (size_alloc1 _ _) (Kd.R_alloc HO.out _) (HB.out.alloc hzr _) (Nat.le_trans hzr (by rw [← size_alloc1]; exact Nat.le_succ _)) hl40 ?_; intro v1 w4 ho hb)
          go_roundg (ys.length - (k + 1))
          case measure => have := HM.out; omega
          case rel => exact ⟨k + 1, by go_num, hlt, ⟨Nat.le_refl _⟩, ⟨by rw [HS.out, hs]; exact ho⟩, ⟨hb⟩⟩
      · rw [List.concat_eq_append] at eL
        subst eL
        obtain ⟨g2, c2, e2⟩ := own3_head HO.out (by simp)
        rw [e2] at HO ⊢
        clear e2
        have hlen1 : (o ++ [l]).length = o.length + 1 := by simp
        have HP := Aside0.mk (own3_parts HO.out)
        have hg2 : g2 < wr.heap.size := HP.out.2.2.2.2.1.lt (by simp)
        have hD := fun ob => (HP.out.2.2.2.2.1.alloc hg2 ob).at0 (i := o.length) (x := l) (by simp)
        have dx0 := fun ob => (hD ob).1
        have dx1 := fun ob => (hD ob).2.1
        have dx2 := fun ob => (hD ob).2.2.1
        have gx1 := fun ob => (hD ob).2.2.2.2.1
        have gx2 := fun ob => (hD ob).2.2.2.2.2
        clear hD
        rw [hlen1] at HO ⊢ hLl
        have hwi : True → wrap64 (((o.length + 1 : Nat) : Int) - 1) = (o.length : Int) := fun _ => by rw [Go.IntWalk.wrap64_in _ (by omega)]; omega
        have hil : (o.length : Int) < ((o.length + 1 : Nat) : Int) := by omega
        replace hwi := hwi trivial
        cases hq : y.f2 with
        | true =>
          rw [hq] at cx2
          cases hql : l.f2 with
          | true =>
            rw [hql] at dx2
            have hs : stepU (o ++ [l]) y = o ++ [l] := by unfold stepU; rw [List.getLast?_concat]; simp only [hql, if_true]
            go_wp2
            go_roundg (ys.length - (k + 1))
            case measure => have := HM.out; omega
            case rel => exact ⟨k + 1, by go_num, hlt, ⟨Nat.le_refl _⟩, ⟨by rw [HS.out, hs]; exact Kd.R_alloc HO.out _⟩, ⟨HB.out.alloc hzr _⟩⟩
          | false =>
            rw [hql] at dx2
            by_cases hc : bs l.f1 < bs y.f0
            · have hcm : Op.bytesLess l.f1.toList y.f0.toList = true := by rw [bless_eq]; exact decide_eq_true hc
              have hs : stepU (o ++ [l]) y = (o ++ [l]) ++ [⟨y.f0, ⟨#[]⟩, true⟩] := by unfold stepU cleanR; rw [List.getLast?_concat]; simp only [hql, hq, if_true, if_false, hc, Bool.false_eq_true]
              have hl40 : ((o ++ [l]).length + 1) * 40 ≤ 140737488355328 := by rw [hlen1]; omega
              go_wp2
              go_quiet (fail)
              go_wp2_with ((with_reducible refine gate_builtin (b := .append) (xs := #[.tmp 57, .tmp 59]) rfl ?_); at_builtin; refine app3 (w0 := w3) (base := g + 1) rfl (.tmp 57) (.tmp 59) rfl (.slice (some ⟨g2, 0, none⟩) (o.length + 1) c2) (o ++ [l]) (⟨y.f0, ⟨#[]⟩, true⟩ : S44) rfl rfl (size_alloc1 _ _) (Kd.R_drewN (Kd.R_alloc HO.out _) _) (pw_below_drewN (HB.out.alloc hzr _) _) (Nat.le_trans hzr (by rw [show ∀ (W : World) q, (W.drewN q).heap.size = W.heap.size from fun _ _ => rfl, ← size_alloc1]; exact Nat.le_succ _)) hl40 ?_; intro v1 w4 ho hb)
              go_roundg (ys.length - (k + 1))
              case measure => have := HM.out; omega
              case rel => exact ⟨k + 1, by go_num, hlt, ⟨Nat.le_refl _⟩, ⟨by rw [HS.out, hs]; exact ho⟩, ⟨hb⟩⟩
            · have hcm : Op.bytesLess l.f1.toList y.f0.toList = false := by rw [bless_eq]; exact decide_eq_false hc
              go_wp2
              go_quiet (fail)
              go_wp2
              have hset : ∀ z l : S44, (o ++ [l]).set o.length z = o ++ [z] := by intro z l; simp
              have hs : stepU (o ++ [l]) y = o ++ [⟨l.f0, ⟨#[]⟩, true⟩] := by unfold stepU cleanR; rw [List.getLast?_concat, List.dropLast_concat]; simp only [hql, hq, if_true, if_false, hc, Bool.false_eq_true]
              have hO1 := put3 (Kd.R_drewN (Kd.R_alloc HO.out (.cells #[.string y.f0, .string ⟨#[]⟩, .bool true] 44)) nq) (i := o.length) (x := l) (by simp) ⟨l.f0, l.f1, true⟩ 2 (.bool true) rfl (by intro j hj; rcases j with _ | _ | _ | j <;> first | rfl | exact absurd rfl hj)
              rw [hset] at hO1
              have hO2 := put3 hO1 (i := o.length) (x := ⟨l.f0, l.f1, true⟩) (by simp) ⟨l.f0, ⟨#[]⟩, true⟩ 1 (.string ⟨#[]⟩) rfl (by intro j hj; rcases j with _ | _ | _ | j <;> first | rfl | exact absurd rfl hj)
              rw [hset] at hO2
              have hge := HP.out.2.1
              have hB2 := ((pw_below_drewN (HB.out.alloc hzr (.cells #[.string y.f0, .string ⟨#[]⟩, .bool true] 44)) nq).setCell (p := ⟨g2, o.length * 3 + 2, none⟩) hge (.bool true)).setCell (p := ⟨g2, o.length * 3 + 1, none⟩) hge (.string ⟨#[]⟩)
              go_roundg (ys.length - (k + 1))
              case measure => have := HM.out; omega
              case rel => exact ⟨k + 1, by go_num, hlt, ⟨Nat.le_refl _⟩, ⟨by rw [HS.out, hs]; exact hO2⟩, ⟨hB2⟩⟩
        | false =>
          rw [hq] at cx2
          cases hql : l.f2 with
          | true =>
            rw [hql] at dx2
            have hs : stepU (o ++ [l]) y = o ++ [l] := by unfold stepU; rw [List.getLast?_concat]; simp only [hql, if_true]
            go_wp2
            go_roundg (ys.length - (k + 1))
            case measure => have := HM.out; omega
            case rel => exact ⟨k + 1, by go_num, hlt, ⟨Nat.le_refl _⟩, ⟨by rw [HS.out, hs]; exact Kd.R_alloc HO.out _⟩, ⟨HB.out.alloc hzr _⟩⟩
          | false =>
            rw [hql] at dx2
            by_cases hc : bs l.f1 < bs y.f0
            · have hcm : Op.bytesLess l.f1.toList y.f0.toList = true := by rw [bless_eq]; exact decide_eq_true hc
              have hs : stepU (o ++ [l]) y = (o ++ [l]) ++ [⟨y.f0, y.f1, false⟩] := by unfold stepU cleanR; rw [List.getLast?_concat]; simp only [hql, hq, if_true, if_false, hc, Bool.false_eq_true]; cases y; cases hq; rfl
              have hl40 : ((o ++ [l]).length + 1) * 40 ≤ 140737488355328 := by rw [hlen1]; omega
              go_wp2
              go_quiet (fail)
              go_wp2_with ((with_reducible refine gate_builtin (b := .append) (xs := #[.tmp 57, .tmp 59]) rfl ?_); at_builtin; refine app3 (w0 := w3) (base := g + 1) rfl (.tmp 57) (.tmp 59) rfl (.slice (some ⟨g2, 0, none⟩) (o.length + 1) c2) (o ++ [l]) (⟨y.f0, y.f1, false⟩ : S44) rfl rfl (size_alloc1 _ _) (Kd.R_drewN (Kd.R_alloc HO.out _) _) (pw_below_drewN (HB.out.alloc hzr _) _) (Nat.le_trans hzr (by rw [show ∀ (W : World) q, (W.drewN q).heap.size = W.heap.size from fun _ _ => rfl, ← size_alloc1]; exact Nat.le_succ _)) hl40 ?_; intro v1 w4 ho hb)
              go_roundg (ys.length - (k + 1))
              case measure => have := HM.out; omega
              case rel => exact ⟨k + 1, by go_num, hlt, ⟨Nat.le_refl _⟩, ⟨by rw [HS.out, hs]; exact ho⟩, ⟨hb⟩⟩
            · have hcm : Op.bytesLess l.f1.toList y.f0.toList = false := by rw [bless_eq]; exact decide_eq_false hc
              go_wp2
              go_quiet (fail)
              go_wp2
              go_region
              go_wp2
              have hset : ∀ z l : S44, (o ++ [l]).set o.length z = o ++ [z] := by intro z l; simp
              have hs : stepU (o ++ [l]) y = o ++ [⟨l.f0, Go.Lib.maxS l.f1 y.f1, l.f2⟩] := by unfold stepU cleanR; rw [List.getLast?_concat, List.dropLast_concat]; simp only [hql, hq, if_true, if_false, hc, Bool.false_eq_true]
              have hO1 := put3 (Kd.R_drewN (Kd.R_alloc HO.out (.cells #[.string y.f0, .string y.f1, .bool false] 44)) (nq + 1)) (i := o.length) (x := l) (by simp) ⟨l.f0, Go.Lib.maxS l.f1 y.f1, l.f2⟩ 1 (.string (Go.Lib.maxS l.f1 y.f1)) rfl (by intro j hj; rcases j with _ | _ | _ | j <;> first | rfl | exact absurd rfl hj)
              rw [hset] at hO1
              have hge := HP.out.2.1
              have hB2 := (pw_below_drewN (HB.out.alloc hzr (.cells #[.string y.f0, .string y.f1, .bool false] 44)) (nq + 1)).setCell (p := ⟨g2, o.length * 3 + 1, none⟩) hge (.string (Go.Lib.maxS l.f1 y.f1))
              go_roundg (ys.length - (k + 1))
              case measure => have := HM.out; omega
              case rel => exact ⟨k + 1, by go_num, hlt, ⟨Nat.le_refl _⟩, ⟨by rw [HS.out, hs]; exact hO1⟩, ⟨hB2⟩⟩
    · obtain rfl : k = ys.length := by omega
      have hltz : ¬ (ys.length : Int) < (ys.length : Int) := by omega
      have hfin := HO.out
      rw [List.take_length, HU.out] at hfin
      go_wp2
      go_ret
      exact ⟨_, rfl, Kd.R_lower hfin (Nat.le_succ_of_le hg), Below.trans HB3.out (HB.out.mono (Nat.le_succ_of_le hg))⟩
def code_Union.f (l0 : List S44) : Option (List S44) := if l0.length * 40 ≤ 140737488355328 then some (unionR l0) else none
theorem code_Union.calls (A0 : Option Addr) (c0 : Nat) (l0 : List S44) (r : List S44) (w : World) (hr0 : Kd.C k44 w A0 l0.length l0) (hc0 : l0.length ≤ c0) (h : code_Union.f l0 = some r) :
    Calls Tryz.prog 51 #[.slice A0 l0.length c0] w fun e w' => ∃ v0_, e = .returned v0_ ∧ Kd.R k44 44 w' w.heap.size (fun _ => True) v0_ r ∧ Below w.heap.size w w' := by
  unfold code_Union.f at h
  by_cases hl : l0.length * 40 ≤ 140737488355328
  · rw [if_pos hl] at h
    obtain rfl := Option.some.inj h
    cases A0 with
    | some ad => exact union_some l0 ad c0 w hr0 hl
    | none =>
      obtain rfl : l0 = [] := by
        rcases Nat.eq_zero_or_pos l0.length with h0 | h0
        · exact List.length_eq_zero_iff.1 h0
        · obtain ⟨_, h1, _⟩ := hr0.2.2 h0
          cases h1
      exact (union_nil c0 w).mono fun e w' h => ⟨_, h.1, Kd.R_nil _ _ _ _ _, h.2⟩
  · rw [if_neg hl] at h
    cases h
end Go.Proofs.YtldlenjfpjihdaaGreat.PA
end
