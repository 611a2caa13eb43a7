/- Status: a table; its keys sorted; open. -/
import Derived.Test.YtckeelbodieblaaStB
import Derived.Test.YtckeelbodieblaaShelfS
import Derived.Test.YtckeelbodieblaaPBx1
import Derived.RangeFuncBound
namespace Go.Proofs.Ytckeelbodieblaa.St
open Go Go.RowKit Go.Proofs Go.Maps Go.MuLone Go.Sort Go.Shelf Go.Proofs.YtckeelbodieblaaW.PrintWords Go.Proofs.YtckeelbodieblaaW.PrintLast Go.Proofs.YtckeelbodieblaaW.PrintMore Go.Proofs.Ytckeelbodieblaa.PB
open Go.WideShapes (sorted_perm)
open Go.WideElems (Fit rd rg pl rd_val rd_key rg_of elemAt)
set_option linter.unusedVariables false
set_option linter.unusedSimpArgs false
/-- The map of a table's transactions: which numbers it has, and where their pointers lie. -/
def Mp (w : World) (m nn : Nat) (pf : Int → Nat) (L : List S70) : Prop :=
  ∃ D : DataW Unit, w.ownsMap Try.prog 3 rp m nn D ∧ (∀ n : Int, Maps.has D (.int .i64 n) = L.any (fun x => x.f0 == n)) ∧ ∀ x ∈ L, ∀ z, D.atKey (.int .i64 x.f0) z = .lit (.int .i64 (pf x.f0))
structure Tab (w : World) (lk : Int) (b m nn : Nat) (pf qf : Int → Nat) (L : List S70) (last : Int) : Prop where
  blk : w.heap[b]? = some (tabO lk last m)
  mp : Mp w m nn pf L
  p : ∀ x ∈ L, w.heap[pf x.f0]? = some (ptrO (qf x.f0))
  q : ∀ x ∈ L, w.heap[qf x.f0]? = some (fateO x.f1 x.f2)
  inj : ∀ x ∈ L, ∀ y ∈ L, pf x.f0 = pf y.f0 → x.f0 = y.f0
  sorted : L.Pairwise (fun x y => x.f0 < y.f0)
  rng : ∀ x ∈ L, 1 ≤ x.f0 ∧ x.f0 ≤ last
  last0 : 0 ≤ last
  nnle : (nn : Int) ≤ last
  st : ∀ x ∈ L, 1 ≤ x.f1 ∧ x.f1 ≤ 4
/-- Each key of the map is an int. -/
theorem keys_int {w : World} {m nn : Nat} {D : DataW Unit} (h : w.ownsMap Try.prog 3 rp m nn D) : ∃ es, D = .map es ∧ es.Pairwise (fun p q => p.1 ≠ q.1) ∧ (∀ p ∈ es, ∃ n : Int, p.1 = .int .i64 n ∧ (Lit.int .i64 n).wf = true) ∧ es.length ≤ nn := by
  obtain ⟨es, clock, hb, F, hs, rfl⟩ := h
  refine ⟨_, rfl, ?_, ?_, ?_⟩
  · have := fit_apart kmap F
    exact ((sorted_perm _).symm.pairwise_iff (fun {a b} (h : a.1 ≠ b.1) => h.symm)).1 this
  · intro p hp
    obtain ⟨v, hv⟩ := fit_keys F p ((sorted_perm _).mem_iff.1 hp)
    obtain ⟨x, rfl, e, hw⟩ := Maps.keyOf_int_inv Try.underlying3 hv
    exact ⟨x, e, hw⟩
  · rw [length_sorted]; simpa using hs
theorem sameInt (a b : Int) : (Lit.int .i64 a).sameKey (.int .i64 b) = (a == b) := by
  rw [Bool.eq_iff_iff]
  simp [Lit.sameKey]
theorem keys_perm_L {w : World} {m nn : Nat} {D : DataW Unit} {L : List S70} (h : w.ownsMap Try.prog 3 rp m nn D) (hh : ∀ n : Int, Maps.has D (.int .i64 n) = L.any (fun x => x.f0 == n)) (hs : L.Pairwise (fun x y => x.f0 < y.f0)) : (intKeys D).Perm (L.map (·.f0)) := by
  obtain ⟨es, rfl, hp, hk, _⟩ := keys_int h
  have h1 : (intKeys (DataW.map es)).Nodup := by
    unfold intKeys
    refine List.Pairwise.map _ (fun {a b} (hab : a.1 ≠ b.1 ∧ a ∈ es ∧ b ∈ es) => ?_) (hp.imp_of_mem fun ha hb hn => ⟨hn, ha, hb⟩)
    obtain ⟨hn, ha, hb⟩ := hab
    obtain ⟨x, ex, _⟩ := hk a ha
    obtain ⟨y, ey, _⟩ := hk b hb
    rw [ex, ey]
    intro e
    apply hn
    rw [ex, ey]
    have : x = y := e
    rw [this]
  have h2 : (L.map (·.f0)).Nodup := List.Pairwise.map _ (fun {a b} (hab : a.f0 < b.f0) => by omega) hs
  refine (List.perm_ext_iff_of_nodup h1 h2).2 (fun n => ?_)
  have hn := hh n
  rw [Maps.has_eq] at hn
  constructor
  · intro hm
    obtain ⟨p, hp', e⟩ := List.mem_map.1 hm
    obtain ⟨x, ex, _⟩ := hk p hp'
    have : L.any (fun x => x.f0 == n) = true := by
      rw [← hn]
      refine List.any_eq_true.2 ⟨p, hp', ?_⟩
      rw [ex] at e ⊢
      rw [sameInt]
      have : x = n := e
      rw [this]; simp
    obtain ⟨y, hy, e2⟩ := List.any_eq_true.1 this
    exact List.mem_map.2 ⟨y, hy, by simpa using e2⟩
  · intro hm
    obtain ⟨y, hy, e⟩ := List.mem_map.1 hm
    have : (es.any fun p => p.1.sameKey (.int .i64 n)) = true := by
      rw [hn]
      exact List.any_eq_true.2 ⟨y, hy, by simpa using e⟩
    obtain ⟨p, hp', e2⟩ := List.any_eq_true.1 this
    obtain ⟨x, ex, _⟩ := hk p hp'
    rw [ex, sameInt] at e2
    refine List.mem_map.2 ⟨p, hp', ?_⟩
    rw [ex]
    show x = n
    simpa using e2
theorem sorted_unique {ss : List Int} {L : List S70} (hp : ss.Perm (L.map (·.f0))) (hs : L.Pairwise (fun x y => x.f0 < y.f0)) : ss.mergeSort (fun x y => decide (x ≤ y)) = L.map (·.f0) := by
  have h1 : (ss.mergeSort (fun x y => decide (x ≤ y))).Pairwise (fun x y => x ≤ y) := by
    have := List.pairwise_mergeSort (le := fun x y : Int => decide (x ≤ y)) (fun a b c h1 h2 => by simp at h1 h2 ⊢; omega) (fun a b => by simp; omega) ss
    exact this.imp (fun h => by simpa using h)
  have h2 : (L.map (·.f0)).Pairwise (fun x y => x ≤ y) := List.Pairwise.map _ (fun {a b} (hab : a.f0 < b.f0) => by omega) hs
  exact ((List.mergeSort_perm ss _).trans hp).eq_of_pairwise (fun a b _ _ h1 h2 => by omega) h1 h2
theorem sortsA (m : Nat) : AnyZI.SortsIn Try.prog Try.sortedA_ren Fence.wide m :=
  ⟨fun blk off cap ss W hH hblk hsz => callsIn_wide.2 (AnyM.slices_Sort_int Try.sortA blk off cap ss W hH hblk hsz),
   fun p cap W => callsIn_wide.2 (AnyM.slices_Sort_int_none Try.sortA p cap W)⟩
theorem keys_any (mb : Option Nat) (W : World) : Calls Try.prog 36 #[.map mb] W fun e w' => e = .returned (.func (.func 55) #[] #[.pointer (some ⟨W.heap.size, 0, none⟩)]) ∧ w' = W.alloc (.cells #[.map mb] 47) :=
  (callsIn_wide (n := 5)).1 (AnyZI.keys_in Try.keysA Fence.wide 5 trivial rfl mb W)
theorem sorted_any (m nn : Nat) (D : DataW Unit) (L : List S70) (w : World) (hown : w.ownsMap Try.prog 3 rp m nn D) (hh : ∀ n : Int, Maps.has D (.int .i64 n) = L.any (fun x => x.f0 == n)) (hs : L.Pairwise (fun x y => x.f0 < y.f0)) (hmax : nn * 24 ≤ 140737488355328) :
    Calls Try.prog 35 #[.func (.func 55) #[] #[.pointer (some ⟨w.heap.size, 0, none⟩)]] (w.alloc (.cells #[.map (some m)] 47)) fun e w' => ∃ v, e = .returned v ∧ Kd.R (Kd.int .i64) 3 w' w.heap.size (fun _ => True) v (L.map (·.f0)) ∧ Below w.heap.size w w' := by
  have hbl := hown.lt
  have hsz : Maps.size D ≤ nn := hown.size_le
  have hseq : SeqGives Fence.wide 2 Try.prog 55 #[.pointer (some ⟨w.heap.size, 0, none⟩)] encZ (fun ss => ss.Perm (intKeys D)) (Maps.size D) (w.alloc (.cells #[.map (some m)] 47)) :=
    AnyZI.keys_gives (ρ := Try.keysA_ren) { Try.keysA with } Fence.wide _ trivial rfl (by omega) w.heap.size m nn D _ (by simp) (by simp) (by
      obtain ⟨es, clock, hb, Ft, hs, hD⟩ := hown
      exact ⟨es, clock, (Below.heap_alloc _ _ m hbl).trans hb, Ft, hs, hD⟩)
  have cS := AnyZI.sorted_in Try.sortedA Fence.wide 5 trivial trivial trivial trivial rfl (by omega) (sortsA _) (enters_of Try.func54 (by kernel_rfl) rfl) 55 #[.pointer (some ⟨w.heap.size, 0, none⟩)] trivial (enters_of Try.func55 (by kernel_rfl) rfl) _ _ (by simp only [maxLen]; omega) (by omega) _ hseq
  refine ((callsIn_wide (n := 5)).1 cS).mono ?_
  rintro e w' ⟨v, ss, rfl, hS, hrow, hnil, hb⟩
  have he := sorted_unique (hS.trans (keys_perm_L hown hh hs)) hs
  refine ⟨v, rfl, ?_, ((Below.refl _ w).alloc (Nat.le_refl _) _).trans (hb.mono (by simp))⟩
  have hrow' : w'.ownsRow w.heap.size 3 1 v ss.length (List.map encZ (ss.mergeSort fun x y => decide (x ≤ y))) := ownsRow_base_a hrow (by simp)
  have hlen : ss.length = (L.map (·.f0)).length := by rw [← he]; simp
  rw [hlen, show (fun x y : Int => decide (x ≤ y)) = leI from rfl] at hrow'
  rw [show (fun x y : Int => decide (x ≤ y)) = leI from rfl] at he
  rw [he] at hrow'
  exact Kd.R_of_own hrow' (fun _ _ => trivial)
def openL (L : List S70) : List Int := (L.filter (fun x => !dec x.f1)).map (·.f0)
theorem openL_snoc (L : List S70) (x : S70) : openL (L ++ [x]) = openL L ++ (if dec x.f1 = true then [] else [x.f0]) := by
  unfold openL
  rw [List.filter_append, List.map_append]
  cases h : dec x.f1 <;> simp [h]
theorem openL_len (L : List S70) : (openL L).length ≤ L.length := by
  unfold openL
  rw [List.length_map]
  exact List.length_filter_le _ _
theorem Tab.below {w w' : World} {lk : Int} {b m nn : Nat} {pf qf : Int → Nat} {L : List S70} {last : Int} (h : Tab w lk b m nn pf qf L last) (hb : Below w.heap.size w w') : Tab w' lk b m nn pf qf L last where
  blk := (hb.block b (lt_of h.blk)).trans h.blk
  mp := by
    obtain ⟨D, ⟨es, clock, h1, h2⟩, h3⟩ := h.mp
    exact ⟨D, ⟨es, clock, (hb.block m (lt_of h1)).trans h1, h2⟩, h3⟩
  p := fun x hx => (hb.block _ (lt_of (h.p x hx))).trans (h.p x hx)
  q := fun x hx => (hb.block _ (lt_of (h.q x hx))).trans (h.q x hx)
  inj := h.inj
  sorted := h.sorted
  rng := h.rng
  last0 := h.last0
  nnle := h.nnle
  st := h.st
theorem Mp.look {w : World} {m nn : Nat} {pf : Int → Nat} {L : List S70} (h : Mp w m nn pf L) {x : S70} (hx : x ∈ L) (hw : (Lit.int .i64 x.f0).wf = true) :
    (Instr.lookup 47 (.map (some m)) (.int .i64 x.f0) false).run Try.prog w = .ok (pt (pf x.f0)) w := by
  obtain ⟨D, hown, hh, ha⟩ := h
  obtain ⟨v, ps, hrun, hv⟩ := hown.lookup kmap Try.underlying47 (Try.zeroValue57 _) rp_nil (kint hw)
  rw [ha x hx] at hv
  rw [hrun, rp_inv_pt hv]
theorem wf_i64 {n : Int} (h0 : 0 ≤ n) (h1 : n ≤ 9223372036854775807) : (Lit.int .i64 n).wf = true := by
  simp [Lit.wf, show IntKind.i64.min = -9223372036854775808 from rfl, show IntKind.i64.max = 9223372036854775807 from rfl]
  omega
theorem Tab.len {w : World} {lk : Int} {b m nn : Nat} {pf qf : Int → Nat} {L : List S70} {last : Int} (h : Tab w lk b m nn pf qf L last) : L.length ≤ nn := by
  obtain ⟨D, hown, hh, ha⟩ := h.mp
  have hp := (keys_perm_L hown hh h.sorted).length_eq
  obtain ⟨es, rfl, _, _, hl⟩ := keys_int hown
  simp [intKeys] at hp
  omega
/-- append(v, n), n being boxed as one element. -/
theorem appI {ops : Array Oper} {rest : List Oper} {o : Oper} {a : Act} {Q : Exit → Act → World → Prop} {w0 W : World} {base n0 : Nat} (hgd : o.guard = none) (s x : Operand) (ho : o.op = .call { callee := .builtin .append, args := #[s, x], argTypes := #[44, 44] })
    (v : Value) (xs : List Int) (p : Int) (hs : a.eval s = v) (hx : a.eval x = .slice (some ⟨n0, 0, none⟩) 1 1) (hn0 : n0 = W.heap.size)
    (HO : Kd.R (Kd.int .i64) 3 W base (fun _ => True) v xs) (HB : Below base w0 W) (hbase : base ≤ W.heap.size) (hl : (xs.length + 1) * 8 ≤ 140737488355328)
    (h : ∀ v1 w1, Kd.R (Kd.int .i64) 3 w1 base (fun _ => True) v1 (xs ++ [p]) → Below base w0 w1 → wpList Try.prog ops Q rest (a.put o.dst v1) w1) :
    wpList Try.prog ops Q (o :: rest) a (W.alloc (.cells #[.int .i64 p] 3)) := by
  subst hn0
  refine Kd.R_append (Kd.int .i64) (w0 := w0) (W := W) base hgd s x 44 3 (.int .i64 0) 8 ho Try.underlying44 info3 rfl (by decide) (by omega) v xs p [.int .i64 p] (fun _ => True) (fun _ => False) hs hx rfl (fun _ hk => hk.elim) (fun _ _ => trivial) HO HB hbase hl ?_
  intro v1 w1 ho hb _ _
  exact h v1 w1 ho hb
set_option maxHeartbeats 4000000 in
set_option maxRecDepth 100000 in
theorem open_any (lk : Int) (b m nn : Nat) (pf qf : Int → Nat) (L : List S70) (last : Int) (w : World) (hT : Tab w lk b m nn pf qf L last) (hl : last * 24 ≤ 140737488355328) :
    Calls Try.prog 17 #[pt b] w fun e w' => ∃ v, e = .returned v ∧ Kd.R (Kd.int .i64) 3 w' w.heap.size (fun _ => True) v (openL L) ∧ Below w.heap.size w w' := by
  have HT := Aside0.mk hT
  have hLn := hT.len
  have hnl := hT.nnle
  have c3 : w.cell? ⟨b, 3, none⟩ = some (.map (some m)) := cell_of hT.blk 3
  obtain ⟨D, hown, hh, ha⟩ := hT.mp
  have hS := sorted_any m nn D L w hown hh hT.sorted (by omega)
  have hle : (L.map (·.f0)).length = L.length := List.length_map _
  clear hown hh ha hT
  unfold pt
  go_enter Try.func17, Try.ntmps17
  go_wp2_with (first | (go_at_call 36; refine (keys_any _ _).mono ?_; rintro e w' ⟨rfl, rfl⟩) | (go_at_call 35; refine hS.mono ?_; rintro e w1 ⟨v, rfl, hR, hb1⟩; obtain ⟨A, c, rfl⟩ := Kd.R_slice hR; have HR1 := Aside0.mk hR; have HB1 := Aside0.mk hb1; clear hR hb1))
  go_loopg [3, 5, 13] L.length (fun gg s3 s5 s13 wr => ∃ k : Nat, s13 = .int .i64 k ∧ k ≤ L.length ∧ Aside0 (L.length - k ≤ gg) ∧ Aside0 (Kd.R (Kd.int .i64) 3 wr w1.heap.size (fun _ => True) s3 (openL (L.take k))) ∧ Aside0 (Below w1.heap.size w1 wr))
  case atStart => exact ⟨0, rfl, Nat.zero_le _, ⟨by omega⟩, ⟨Kd.R_nil _ _ _ _ _⟩, ⟨Below.refl _ _⟩⟩
  case round =>
    obtain ⟨k, rfl, hk, HM, HO, HB⟩ := hrel
    by_cases hlt : k < L.length
    · have hltz : (k : Int) < (L.length : Int) := by omega
      obtain ⟨x, hx⟩ : ∃ x, L[k]? = some x := ⟨_, List.getElem?_eq_getElem hlt⟩
      have hxm : x ∈ L := List.mem_of_getElem? hx
      obtain ⟨ad, e, hc0⟩ := Kd.at_int (Kd.R_reads' HR1.out).2.2 (k : Int) (by omega) (by simp; omega)
      subst e
      have hrd : YtckeelbodieblaaW.PrintWords.rd (L.map (·.f0)) (k : Int) = x.f0 := by
        unfold YtckeelbodieblaaW.PrintWords.rd
        simp [List.getD, hx]
      rw [hrd] at hc0
      simp only [Int.toNat_natCast] at hc0
      replace hc0 := (HB.out.cell (World.block_lt_of_cell? _ _ hc0)).trans hc0
      have hTr := HT.out.below (below_step HB1.out HB.out)
      have hr := hTr.rng x hxm
      have hlook := hTr.mp.look hxm (wf_i64 (by omega) (by omega))
      have hp := hTr.p x hxm
      have hq := hTr.q x hxm
      have c3r : wr.cell? ⟨b, 3, none⟩ = some (.map (some m)) := cell_of hTr.blk 3
      have hstep : openL (L.take (k + 1)) = openL (L.take k) ++ (if dec x.f1 = true then [] else [x.f0]) := by rw [List.take_add_one, hx]; exact openL_snoc _ _
      have hol : (openL (L.take k)).length ≤ k := Nat.le_trans (openL_len _) (by rw [List.length_take]; omega)
      have HS := Aside0.mk hstep
      have HPQ := Aside0.mk (And.intro hp hq)
      have HL := Aside0.mk (show ((openL (L.take k)).length + 1) * 8 ≤ 140737488355328 by omega)
      have hz := HB.out.size
      generalize openL (L.take k) = O at HO HS HL
      clear hx hxm hrd hTr hr hp hq hstep hol
      unfold pt at hlook
      cases hd : dec x.f1 with
      | true =>
        go_wp2_with (first | (go_at_call 30; refine (load_ptr _ _ _ _ _ HPQ.out.1 HPQ.out.2).mono ?_; rintro e w' ⟨rfl, rfl⟩) | (go_at_call 37; refine (decided_any _ _ _ _ HPQ.out.2).mono ?_; rintro e w' ⟨rfl, rfl⟩; rw [hd]))
        go_roundg (L.length - (k + 1))
        case measure => have := HM.out; omega
        case rel => exact ⟨k + 1, by go_num, hlt, ⟨Nat.le_refl _⟩, ⟨by rw [HS.out, if_pos hd, List.append_nil]; exact HO.out⟩, ⟨HB.out⟩⟩
      | false =>
        go_wp2_with (first | (go_at_call 30; refine (load_ptr _ _ _ _ _ HPQ.out.1 HPQ.out.2).mono ?_; rintro e w' ⟨rfl, rfl⟩) | (go_at_call 37; refine (decided_any _ _ _ _ HPQ.out.2).mono ?_; rintro e w' ⟨rfl, rfl⟩; rw [hd]) | ((with_reducible refine gate_builtin (b := .append) (xs := #[.tmp 26, .tmp 28]) rfl ?_); at_builtin; refine appI (w0 := w1) (base := w1.heap.size) rfl (.tmp 26) (.tmp 28) rfl _ O x.f0 rfl rfl rfl HO.out HB.out hz HL.out ?_; intro v1 w4 ho hb))
        go_roundg (L.length - (k + 1))
        case measure => have := HM.out; omega
        case rel => exact ⟨k + 1, by go_num, hlt, ⟨Nat.le_refl _⟩, ⟨by rw [HS.out, if_neg (by rw [hd]; decide)]; exact ho⟩, ⟨hb⟩⟩
    · obtain rfl : k = L.length := by omega
      have hltz : ¬ (L.length : Int) < (L.length : Int) := by omega
      have hfin := HO.out
      rw [List.take_length] at hfin
      go_wp2
      go_ret
      exact ⟨_, rfl, Kd.R_lower hfin HB1.out.size, below_step HB1.out HB.out⟩
end Go.Proofs.Ytckeelbodieblaa.St
