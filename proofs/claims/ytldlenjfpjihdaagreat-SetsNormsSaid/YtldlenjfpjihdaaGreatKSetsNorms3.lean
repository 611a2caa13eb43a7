/- Part 4 of what the proof of SetsNorms stands on: words for walks, printed functions with their contracts, plain laws. -/
import Derived.Test.YtldlenjfpjihdaaGreatKSetsNorms2
section
namespace Go.Proofs.YtldlenjfpjihdaaGreat.PS
open Go.RowKit Go.Proofs.YtldlenjfpjihdaaGreatW.PrintWords Go.Proofs.YtldlenjfpjihdaaGreatW.PrintLast Go.Proofs.YtldlenjfpjihdaaGreatW.PrintMore
attribute [local go_sem] max2_int min2_int max_two min_two max_three min_three max_four min_four
set_option linter.unusedVariables false
set_option linter.unusedSimpArgs false
attribute [local go_sem high] eqA37
set_option maxHeartbeats 8000000 in
set_option maxRecDepth 100000 in
theorem vellumref02_joins.calls (a0_0 : ByteArray) (a0_1 : ByteArray) (a0_2 : Bool) (a1_0 : ByteArray) (a1_1 : ByteArray) (a1_2 : Bool) (r : Bool) (w : World) (h : vellumref02_joins.f a0_0 a0_1 a0_2 a1_0 a1_1 a1_2 = some r) :
  Calls Tryz.prog 80 #[.agg #[.string a0_0, .string a0_1, .bool a0_2], .agg #[.string a1_0, .string a1_1, .bool a1_2]] w fun e w' => e = .returned (.bool r) ∧ Below w.heap.size w w' := by
 have hu44 := Tryz.underlying44
 have HB := Aside0.mk (Below.refl w.heap.size w)
 have H : (if a0_2 = true then (some true) else (some (!(Op.bytesLess a0_1.toList a1_0.toList)))) = some r := h
 clear h
 by_cases c3 : a0_2 = true
 ·subst c3
  have H1 : (some true) = some r := by rw [if_pos rfl] at H; exact H
  clear H
  have H := H1
  clear H1
  obtain rfl := Option.some.inj H
  go_enter Tryz.func80, Tryz.ntmps80
  go_wp2_with (first | ((with_reducible refine gate_dst (N := 2) rfl ?_); refine box_event ?hg (N := 2) ?hd (cs := #[.string a0_0, .string a0_1, .bool true]) (t := 44) ?hr ?_; (case hd => rfl); (case hg => rfl); (case hr => first | (go_simp; done) | (go_simp; rfl)); intro gb189 hg w4 hbox hb; have n0_ := Aside0.mk (below_step (by repeat (first | (with_reducible first | exact HB.out | apply below_alloc | apply pw_below_drewN | apply below_drew1) | exact HB.out)) hb); have n1_ := Aside0.mk (hbox); have n2_ := Aside0.mk ((by rw [hg]; exact (below_size (by repeat (first | (with_reducible first | exact HB.out | apply below_alloc | apply pw_below_drewN | apply below_drew1) | exact HB.out))) : w.heap.size ≤ gb189)); have n3_ := n2_; clear HB; have HB := n0_; have BK189 := n1_; have GW189 := n2_; have GE189 := n3_; clear n0_ n1_ n2_ n3_; clear hb hbox hg) | ((with_reducible refine gate_dst (N := 3) rfl ?_); refine box_event ?hg (N := 3) ?hd (cs := #[.string a1_0, .string a1_1, .bool a1_2]) (t := 44) ?hr ?_; (case hd => rfl); (case hg => rfl); (case hr => first | (go_simp; done) | (go_simp; rfl)); intro gb190 hg w5 hbox hb; have n0_ := Aside0.mk (blk_below (g := gb189) (o := .cells #[.string a0_0, .string a0_1, .bool true] 44 (0, 0)) (by (with_reducible repeat (first | refine blk_drewN ?_ _ | refine blk_drew ?_ | refine blk_alloc ?_ _)); exact BK189.out) hb); have n1_ := Aside0.mk (below_step (by repeat (first | (with_reducible first | exact HB.out | apply below_alloc | apply pw_below_drewN | apply below_drew1 | refine below_set ?_ GE189.out) | exact HB.out)) hb); have n2_ := Aside0.mk (hbox); have n3_ := Aside0.mk ((by rw [hg]; exact (below_size (by repeat (first | (with_reducible first | exact HB.out | apply below_alloc | apply pw_below_drewN | apply below_drew1 | refine below_set ?_ GE189.out) | exact HB.out))) : w.heap.size ≤ gb190)); have n4_ := n3_; have n5_ := Aside0.mk ((by rw [hg]; exact Nat.ne_of_lt (blk_lt (g := gb189) (o := .cells #[.string a0_0, .string a0_1, .bool true] 44 (0, 0)) (by (with_reducible repeat (first | refine blk_drewN ?_ _ | refine blk_drew ?_ | refine blk_alloc ?_ _)); exact BK189.out)) : gb189 ≠ gb190)); have n6_ := Aside0.mk ((by rw [hg]; exact Nat.ne_of_gt (blk_lt (g := gb189) (o := .cells #[.string a0_0, .string a0_1, .bool true] 44 (0, 0)) (by (with_reducible repeat (first | refine blk_drewN ?_ _ | refine blk_drew ?_ | refine blk_alloc ?_ _)); exact BK189.out)) : gb190 ≠ gb189)); clear BK189; clear HB; have BK189 := n0_; have HB := n1_; have BK190 := n2_; have GW190 := n3_; have GE190 := n4_; have NB189_190 := n5_; have NB190_189 := n6_; clear n0_ n1_ n2_ n3_ n4_ n5_ n6_; clear hb hbox hg; have hnb6 := NB189_190.out; have hnc6 := NB190_189.out; have hcz7_0 : w5.cell? ⟨gb189, 0, none⟩ = some (.string a0_0) := (blk_cell BK189.out 0).trans rfl; have hcz7_1 : w5.cell? ⟨gb189, 1, none⟩ = some (.string a0_1) := (blk_cell BK189.out 1).trans rfl; have hcz7_2 : w5.cell? ⟨gb189, 2, none⟩ = some (.bool true) := (blk_cell BK189.out 2).trans rfl; have hfz7_0 := blk_frozen BK189.out 0; have hfz7_1 := blk_frozen BK189.out 1; have hfz7_2 := blk_frozen BK189.out 2))
  go_ret
  exact ⟨by first | rfl | (simp [errW_none, errW_some] <;> rfl) | (simp [*, errW_none, errW_some] <;> rfl), by repeat (first | (with_reducible first | exact HB.out | apply below_alloc | apply pw_below_drewN | apply below_drew1 | refine below_set ?_ GE189.out | refine below_set ?_ GE190.out) | exact HB.out)⟩
 ·replace c3 := Bool.eq_false_iff.mpr c3
  subst c3
  have H1 : (some (!(Op.bytesLess a0_1.toList a1_0.toList))) = some r := by rw [if_neg (show ¬ (false = true) by decide)] at H; exact H
  clear H
  have H := H1
  clear H1
  obtain rfl := Option.some.inj H
  go_enter Tryz.func80, Tryz.ntmps80
  go_wp2_with (first | ((with_reducible refine gate_dst (N := 2) rfl ?_); refine box_event ?hg (N := 2) ?hd (cs := #[.string a0_0, .string a0_1, .bool false]) (t := 44) ?hr ?_; (case hd => rfl); (case hg => rfl); (case hr => first | (go_simp; done) | (go_simp; rfl)); intro gb189 hg w8 hbox hb; have n0_ := Aside0.mk (below_step (by repeat (first | (with_reducible first | exact HB.out | apply below_alloc | apply pw_below_drewN | apply below_drew1) | exact HB.out)) hb); have n1_ := Aside0.mk (hbox); have n2_ := Aside0.mk ((by rw [hg]; exact (below_size (by repeat (first | (with_reducible first | exact HB.out | apply below_alloc | apply pw_below_drewN | apply below_drew1) | exact HB.out))) : w.heap.size ≤ gb189)); have n3_ := n2_; clear HB; have HB := n0_; have BK189 := n1_; have GW189 := n2_; have GE189 := n3_; clear n0_ n1_ n2_ n3_; clear hb hbox hg) | ((with_reducible refine gate_dst (N := 3) rfl ?_); refine box_event ?hg (N := 3) ?hd (cs := #[.string a1_0, .string a1_1, .bool a1_2]) (t := 44) ?hr ?_; (case hd => rfl); (case hg => rfl); (case hr => first | (go_simp; done) | (go_simp; rfl)); intro gb190 hg w9 hbox hb; have n0_ := Aside0.mk (blk_below (g := gb189) (o := .cells #[.string a0_0, .string a0_1, .bool false] 44 (0, 0)) (by (with_reducible repeat (first | refine blk_drewN ?_ _ | refine blk_drew ?_ | refine blk_alloc ?_ _)); exact BK189.out) hb); have n1_ := Aside0.mk (below_step (by repeat (first | (with_reducible first | exact HB.out | apply below_alloc | apply pw_below_drewN | apply below_drew1 | refine below_set ?_ GE189.out) | exact HB.out)) hb); have n2_ := Aside0.mk (hbox); have n3_ := Aside0.mk ((by rw [hg]; exact (below_size (by repeat (first | (with_reducible first | exact HB.out | apply below_alloc | apply pw_below_drewN | apply below_drew1 | refine below_set ?_ GE189.out) | exact HB.out))) : w.heap.size ≤ gb190)); have n4_ := n3_; have n5_ := Aside0.mk ((by rw [hg]; exact Nat.ne_of_lt (blk_lt (g := gb189) (o := .cells #[.string a0_0, .string a0_1, .bool false] 44 (0, 0)) (by (with_reducible repeat (first | refine blk_drewN ?_ _ | refine blk_drew ?_ | refine blk_alloc ?_ _)); exact BK189.out)) : gb189 ≠ gb190)); have n6_ := Aside0.mk ((by rw [hg]; exact Nat.ne_of_gt (blk_lt (g := gb189) (o := .cells #[.string a0_0, .string a0_1, .bool false] 44 (0, 0)) (by (with_reducible repeat (first | refine blk_drewN ?_ _ | refine blk_drew ?_ | refine blk_alloc ?_ _)); exact BK189.out)) : gb190 ≠ gb189)); clear BK189; clear HB; have BK189 := n0_; have HB := n1_; have BK190 := n2_; have GW190 := n3_; have GE190 := n4_; have NB189_190 := n5_; have NB190_189 := n6_; clear n0_ n1_ n2_ n3_ n4_ n5_ n6_; clear hb hbox hg; have hnb10 := NB189_190.out; have hnc10 := NB190_189.out; have hcz11_0 : w9.cell? ⟨gb189, 0, none⟩ = some (.string a0_0) := (blk_cell BK189.out 0).trans rfl; have hcz11_1 : w9.cell? ⟨gb189, 1, none⟩ = some (.string a0_1) := (blk_cell BK189.out 1).trans rfl; have hcz11_2 : w9.cell? ⟨gb189, 2, none⟩ = some (.bool false) := (blk_cell BK189.out 2).trans rfl; have hfz11_0 := blk_frozen BK189.out 0; have hfz11_1 := blk_frozen BK189.out 1; have hfz11_2 := blk_frozen BK189.out 2; have hcz12_0 : w9.cell? ⟨gb190, 0, none⟩ = some (.string a1_0) := (blk_cell BK190.out 0).trans rfl; have hcz12_1 : w9.cell? ⟨gb190, 1, none⟩ = some (.string a1_1) := (blk_cell BK190.out 1).trans rfl; have hcz12_2 : w9.cell? ⟨gb190, 2, none⟩ = some (.bool a1_2) := (blk_cell BK190.out 2).trans rfl; have hfz12_0 := blk_frozen BK190.out 0; have hfz12_1 := blk_frozen BK190.out 1; have hfz12_2 := blk_frozen BK190.out 2))
  go_ret
  exact ⟨by first | rfl | (simp [errW_none, errW_some] <;> rfl) | (simp [*, errW_none, errW_some] <;> rfl), by repeat (first | (with_reducible first | exact HB.out | apply below_alloc | apply pw_below_drewN | apply below_drew1 | refine below_set ?_ GE189.out | refine below_set ?_ GE190.out) | exact HB.out)⟩
end Go.Proofs.YtldlenjfpjihdaaGreat.PS
end
section
namespace Go.Proofs.YtldlenjfpjihdaaGreat.PS
open Go Go.RowKit Go.Proofs Go.Proofs.YtldlenjfpjihdaaGreatW.PrintWords
set_option linter.unusedVariables false
set_option linter.unusedSimpArgs false
def Ev {α : Type} (f : Nat → Option α) (v : α) : Prop := ∃ k0, ∀ k, k0 ≤ k → f k = some v
namespace Ev
variable {α β : Type} {f g : Nat → Option α} {v : α}
theorem pure {v : α} : Ev (fun _ => some v) v := ⟨0, fun _ _ => rfl⟩
theorem bind {F : Nat → α → Option β} {b : β} (h : Ev f v) (h2 : Ev (fun k => F k v) b) : Ev (fun k => (f k).bind (F k)) b := by
  obtain ⟨k0, h⟩ := h
  obtain ⟨k1, h2⟩ := h2
  exact ⟨max k0 k1, fun k hk => by show (f k).bind (F k) = some b; rw [h k (by omega)]; exact h2 k (by omega)⟩
theorem step (h : ∀ k, f (k + 1) = g k) (hg : Ev g v) : Ev f v := by
  obtain ⟨k0, hg⟩ := hg
  refine ⟨k0 + 1, fun k hk => ?_⟩
  obtain ⟨j, rfl⟩ : ∃ j, k = j + 1 := ⟨k - 1, by omega⟩
  rw [h]; exact hg j (by omega)
theorem from_ (n : Nat) (h : ∀ k, f (k + n) = some v) : Ev f v := ⟨n, fun k hk => by have := h (k - n); rwa [Nat.sub_add_cancel hk] at this⟩
theorem congr (h : ∀ k, f k = g k) (hg : Ev g v) : Ev f v := by obtain ⟨k0, hg⟩ := hg; exact ⟨k0, fun k hk => by rw [h]; exact hg k hk⟩
theorem pos {c : Prop} [Decidable c] (hc : c) (h : Ev f v) : Ev (fun k => if c then f k else g k) v := congr (fun k => if_pos hc) h
theorem ex (h : Ev f v) : ∃ k, f k = some v := by obtain ⟨k0, h⟩ := h; exact ⟨k0, h k0 (Nat.le_refl _)⟩
end Ev
theorem wrap64_id {n : Int} (h0 : -9223372036854775808 ≤ n) (h1 : n < 9223372036854775808) : wrap64 n = n := by unfold wrap64; omega
theorem rd37 {L : List S37} {i : Nat} {x : S37} (h : L[i]? = some x) : rd_T37 L (i : Int) = x := by unfold rd_T37; simp [List.getD, h]
theorem rd46 {L : List S46} {i : Nat} {x : S46} (h : L[i]? = some x) : rd_T46 L (i : Int) = x := by unfold rd_T46; simp [List.getD, h]
def bs (a : ByteArray) : List UInt8 := a.data.toList
theorem bless_eq (a b : ByteArray) : Op.bytesLess a.toList b.toList = decide (bs a < bs b) := by
  rw [Go.Proofs.bytesLess_eq, Go.Lib.toList_data, Go.Lib.toList_data]
  rfl
theorem bs_inj {a b : ByteArray} (h : bs a = bs b) : a = b := by
  cases a; cases b
  unfold bs at h
  congr
  exact Array.toList_inj.1 h
def cmpS (a b : List UInt8) : Int := if a < b then -1 else if b < a then 1 else 0
theorem cmpB_eq : ∀ a b : List UInt8, Lib.compareBytes a b = cmpS a b
  | [], [] => rfl
  | [], _ :: _ => rfl
  | _ :: _, [] => rfl
  | x :: a, y :: b => by
    unfold Lib.compareBytes
    by_cases h1 : x < y
    · have h : x :: a < y :: b := List.cons_lt_cons_iff.2 (.inl h1)
      simp [h1, cmpS, h]
    · by_cases h2 : y < x
      · have hn : ¬ x = y := fun e => by subst e; exact h1 h2
        have h : ¬ x :: a < y :: b := fun h => (List.cons_lt_cons_iff.1 h).elim h1 (fun h => hn h.1)
        have h' : y :: b < x :: a := List.cons_lt_cons_iff.2 (.inl h2)
        simp [h1, h2, cmpS, h, h']
      · have e : x = y := UInt8.le_antisymm (UInt8.not_lt.1 h2) (UInt8.not_lt.1 h1)
        subst e
        simp only [h1, if_false, cmpB_eq a b, cmpS, List.cons_lt_cons_iff, false_or, true_and]
def cmpP (a b : S37) : Int :=
  if a.f0 = b.f0 then (if a.f1 = b.f1 then cmpS (bs a.f2) (bs b.f2) else if a.f1 < b.f1 then -1 else 1) else if a.f0 < b.f0 then -1 else 1
def ltP (a b : S37) : Prop := a.f0 < b.f0 ∨ (a.f0 = b.f0 ∧ (a.f1 < b.f1 ∨ (a.f1 = b.f1 ∧ bs a.f2 < bs b.f2)))
instance (a b : S37) : Decidable (ltP a b) := by unfold ltP; infer_instance
theorem ltP_irrefl (a : S37) : ¬ ltP a a := by
  rintro (h | ⟨_, h | ⟨_, h⟩⟩)
  · omega
  · omega
  · exact List.lt_irrefl _ h
theorem ltP_trans {a b c : S37} (h1 : ltP a b) (h2 : ltP b c) : ltP a c := by
  unfold ltP at *
  rcases h1 with h1 | ⟨e1, h1 | ⟨e2, h1⟩⟩ <;> rcases h2 with h2 | ⟨e3, h2 | ⟨e4, h2⟩⟩
  all_goals first | exact .inl (by omega) | exact .inr ⟨by omega, .inl (by omega)⟩ | exact .inr ⟨by omega, .inr ⟨by omega, List.lt_trans h1 h2⟩⟩
theorem ltP_tri (a b : S37) : ltP a b ∨ a = b ∨ ltP b a := by
  unfold ltP
  by_cases h0 : a.f0 = b.f0
  · by_cases h1 : a.f1 = b.f1
    · by_cases h2 : bs a.f2 < bs b.f2
      · exact .inl (.inr ⟨h0, .inr ⟨h1, h2⟩⟩)
      · by_cases h3 : bs b.f2 < bs a.f2
        · exact .inr (.inr (.inr ⟨h0.symm, .inr ⟨h1.symm, h3⟩⟩))
        · refine .inr (.inl ?_)
          have e := bs_inj (List.le_antisymm (List.not_lt.1 h3) (List.not_lt.1 h2))
          cases a; cases b
          simp_all
    · rcases Int.lt_or_gt_of_ne h1 with h | h
      · exact .inl (.inr ⟨h0, .inl h⟩)
      · exact .inr (.inr (.inr ⟨h0.symm, .inl h⟩))
  · rcases Int.lt_or_gt_of_ne h0 with h | h
    · exact .inl (.inl h)
    · exact .inr (.inr (.inl h))
theorem cmpP_eq (a b : S37) : cmpP a b = if ltP a b then -1 else if ltP b a then 1 else 0 := by
  by_cases h0 : a.f0 = b.f0
  · by_cases h1 : a.f1 = b.f1
    · have e1 : ltP a b ↔ bs a.f2 < bs b.f2 := ⟨fun h => h.elim (fun h => absurd h0 (by omega)) (fun h => h.2.elim (fun h => absurd h1 (by omega)) (fun h => h.2)), fun h => .inr ⟨h0, .inr ⟨h1, h⟩⟩⟩
      have e2 : ltP b a ↔ bs b.f2 < bs a.f2 := ⟨fun h => h.elim (fun h => absurd h0 (by omega)) (fun h => h.2.elim (fun h => absurd h1 (by omega)) (fun h => h.2)), fun h => .inr ⟨h0.symm, .inr ⟨h1.symm, h⟩⟩⟩
      unfold cmpP cmpS
      simp only [if_pos h0, if_pos h1, e1, e2]
    · have e1 : ltP a b ↔ a.f1 < b.f1 := ⟨fun h => h.elim (fun h => absurd h0 (by omega)) (fun h => h.2.elim id (fun h => absurd h.1 h1)), fun h => .inr ⟨h0, .inl h⟩⟩
      have e2 : ltP b a ↔ b.f1 < a.f1 := ⟨fun h => h.elim (fun h => absurd h0 (by omega)) (fun h => h.2.elim id (fun h => absurd h.1.symm h1)), fun h => .inr ⟨h0.symm, .inl h⟩⟩
      unfold cmpP
      simp only [if_pos h0, if_neg h1, e1, e2]
      repeat' split
      all_goals omega
  · have e1 : ltP a b ↔ a.f0 < b.f0 := ⟨fun h => h.elim id (fun h => absurd h.1 h0), .inl⟩
    have e2 : ltP b a ↔ b.f0 < a.f0 := ⟨fun h => h.elim id (fun h => absurd h.1.symm h0), .inl⟩
    unfold cmpP
    simp only [if_neg h0, e1, e2]
    repeat' split
    all_goals omega
theorem cmpP_lt (a b : S37) : cmpP a b < 0 ↔ ltP a b := by
  rw [cmpP_eq]
  by_cases h : ltP a b
  · simp [h]
  · by_cases h2 : ltP b a
    · simp [h, h2]
    · simp [h, h2]
theorem cmpP_zero (a b : S37) : cmpP a b = 0 ↔ a = b := by
  rw [cmpP_eq]
  by_cases h : ltP a b
  · simp only [h, if_true]
    exact ⟨fun e => by omega, fun e => by subst e; exact absurd h (ltP_irrefl a)⟩
  · by_cases h2 : ltP b a
    · simp only [h, h2, if_true, if_false]
      exact ⟨fun e => by omega, fun e => by subst e; exact absurd h2 (ltP_irrefl a)⟩
    · simp only [h, h2, if_false, true_iff]
      rcases ltP_tri a b with h3 | h3 | h3
      · exact absurd h3 h
      · exact h3
      · exact absurd h3 h2
theorem strings_eq (a b : ByteArray) : vellumref01_Strings.f a b = some (cmpS (bs a) (bs b)) := by
  unfold vellumref01_Strings.f cmpS
  rw [bless_eq, bless_eq]
  by_cases h : bs a < bs b
  · simp [h]
  · by_cases h2 : bs b < bs a <;> simp [h, h2]
theorem cmp_eq (a b : S37) : vellumref17_Cmp.f a.f0 a.f1 a.f2 b.f0 b.f1 b.f2 = some (cmpP a b) := by
  unfold vellumref17_Cmp.f cmpP
  rw [strings_eq, Option.bind_some]
  repeat' split
  all_goals rfl
theorem cmpI_eq (a b : Int) : cmp_Compare_int.f a b = some (if a < b then -1 else if b < a then 1 else 0) := by
  unfold cmp_Compare_int.f cmp_isNaN_int.f
  simp only [bne_self_eq_false, Option.bind_some, Bool.false_eq_true, if_false]
  repeat' split
  all_goals rfl
theorem or3_ev (a b c : Int) : Ev (fun k => cmp_Or_int.f k [a, b, c]) (if a = 0 then (if b = 0 then c else b) else a) := by
  refine Ev.from_ 4 (fun k => ?_)
  have e1 : wrap64 (0 + 1) = 1 := wrap64_id (by decide) (by decide)
  have e2 : wrap64 (1 + 1) = 2 := wrap64_id (by decide) (by decide)
  have e3 : wrap64 (2 + 1) = 3 := wrap64_id (by decide) (by decide)
  have r0 : rd [a, b, c] 0 = a := rfl
  have r1 : rd [a, b, c] 1 = b := rfl
  have r2 : rd [a, b, c] 2 = c := rfl
  unfold cmp_Or_int.f
  have hl : (([a, b, c] : List Int).length : Int) = 3 := rfl
  rw [hl, cmp_Or_int.l0, r0, e1, cmp_Or_int.l0, r1, e2, cmp_Or_int.l0, r2, e3, cmp_Or_int.l0, hl]
  by_cases ha : a = 0
  · by_cases hb : b = 0
    · by_cases hc : c = 0 <;> simp [ha, hb, hc]
    · simp [ha, hb]
  · simp [ha]
theorem before_ev (a b : S37) : Ev (fun k => sets_before.f k a.f0 a.f1 a.f2 b.f0 b.f1 b.f2) (cmpP a b) := by
  unfold sets_before.f strings_Compare.f
  simp only [cmpI_eq, Option.bind_some]
  refine Ev.bind (F := fun _ t => some t) (v := cmpP a b) ?_ Ev.pure
  have h := or3_ev (if a.f0 < b.f0 then -1 else if b.f0 < a.f0 then 1 else 0) (if a.f1 < b.f1 then -1 else if b.f1 < a.f1 then 1 else 0) (Lib.compareBytes a.f2.data.toList b.f2.data.toList)
  have e : (if (if a.f0 < b.f0 then (-1 : Int) else if b.f0 < a.f0 then 1 else 0) = 0 then (if (if a.f1 < b.f1 then (-1 : Int) else if b.f1 < a.f1 then 1 else 0) = 0 then Lib.compareBytes a.f2.data.toList b.f2.data.toList else if a.f1 < b.f1 then -1 else if b.f1 < a.f1 then 1 else 0) else if a.f0 < b.f0 then -1 else if b.f0 < a.f0 then 1 else 0) = cmpP a b := by
    rw [cmpB_eq]
    unfold cmpP bs
    repeat' split
    all_goals first | rfl | omega
  rwa [e] at h
def lstep (acc : Option S37) (p : S37) : Option S37 := match acc with | none => some p | some q => if ltP p q then some p else some q
def leastS (l : List S37) : Option S37 := l.foldl lstep none
theorem foldl_filter (f : S37 → Bool) (l : List S37) : ∀ acc, l.foldl (fun a p => if f p = true then lstep a p else a) acc = (l.filter f).foldl lstep acc := by
  induction l with
  | nil => intro acc; rfl
  | cons y r ih =>
    intro acc
    rw [List.foldl_cons, ih, List.filter_cons]
    by_cases h : f y = true
    · rw [if_pos h, if_pos h]; rfl
    · rw [if_neg h, if_neg h]
def eqP (a b : S37) : Bool := a.f0 == b.f0 && (a.f1 == b.f1 && (a.f2.toList == b.f2.toList))
theorem toList_inj {a b : ByteArray} (h : a.toList = b.toList) : a = b := by
  rw [Go.Lib.toList_data, Go.Lib.toList_data] at h
  exact bs_inj h
theorem eqP_iff (a b : S37) : eqP a b = true ↔ a = b := by
  unfold eqP
  cases a; cases b
  simp only [Bool.and_eq_true, beq_iff_eq, S37.mk.injEq]
  exact ⟨fun h => ⟨h.1, h.2.1, toList_inj h.2.2⟩, fun h => ⟨h.1, h.2.1, by rw [h.2.2]⟩⟩
def hasB (r : S44) (key : ByteArray) : Bool := !(decide (bs key < bs r.f0)) && (r.f2 || decide (bs key < bs r.f1))
theorem has_eq (r : S44) (key : ByteArray) : vellumref02_Has.f r.f0 r.f1 r.f2 key = some (hasB r key) := by
  unfold vellumref02_Has.f hasB
  rw [bless_eq, bless_eq]
  by_cases h : bs key < bs r.f0
  · simp [h]
  · cases h2 : r.f2 <;> simp [h]
theorem chas_eq (r : S44) (key : ByteArray) : code_Has.f r.f0 r.f1 r.f2 key = some (hasB r key) := has_eq r key
def spanB (p : S37) (s : S46) : Bool := (s.f0 == p.f0 && s.f1 == p.f1) && hasB s.f2 p.f2
def readsS (ps : List S37) (ss : List S46) (p : S37) : Bool := ps.any (eqP p) || ss.any (spanB p)
theorem any_drop {α : Type} {L : List α} {i : Nat} {x : α} (hx : L[i]? = some x) (f : α → Bool) : (L.drop i).any f = (f x || (L.drop (i + 1)).any f) := by
  have hlt := (List.getElem?_eq_some_iff.1 hx).1
  rw [List.drop_eq_getElem_cons hlt, (List.getElem?_eq_some_iff.1 hx).2]
  rfl
theorem spanned_ev (L : List S46) (p : S37) (hl : L.length < 4611686018427387904) : Ev (fun k => vellumref17_spanned.f k L p.f0 p.f1 p.f2) (L.any (spanB p)) := by
  have go : ∀ (m i : Nat), i + m = L.length → Ev (fun k => vellumref17_spanned.l0 k L (i : Int) p.f0 p.f1 p.f2) ((L.drop i).any (spanB p)) := by
    intro m
    induction m with
    | zero =>
      intro i hi
      refine Ev.from_ 1 fun k => ?_
      simp only [vellumref17_spanned.l0]
      rw [if_neg (by omega), List.drop_eq_nil_of_le (by omega)]
      rfl
    | succ m ih =>
      intro i hi
      obtain ⟨x, hx⟩ : ∃ x, L[i]? = some x := ⟨_, List.getElem?_eq_getElem (by omega)⟩
      rw [any_drop hx]
      by_cases e : spanB p x = true
      · rw [e, Bool.true_or]
        refine Ev.from_ 1 fun k => ?_
        simp only [vellumref17_spanned.l0]
        unfold spanB at e
        simp only [Bool.and_eq_true, beq_iff_eq] at e
        rw [if_pos (by omega), if_pos (by omega), rd46 hx, if_pos e.1.1, if_pos e.1.2, has_eq, Option.bind_some, if_pos e.2]
      · rw [Bool.not_eq_true] at e
        rw [e, Bool.false_or]
        refine Ev.step (g := fun k => vellumref17_spanned.l0 k L ((i + 1 : Nat) : Int) p.f0 p.f1 p.f2) (fun k => ?_) (ih (i + 1) (by omega))
        simp only [vellumref17_spanned.l0]
        rw [if_pos (by omega), if_pos (by omega), rd46 hx, has_eq, Option.bind_some, wrap64_id (by omega) (by omega)]
        unfold spanB at e
        by_cases h1 : x.f0 = p.f0
        · rw [if_pos h1]
          by_cases h2 : x.f1 = p.f1
          · rw [if_pos h2]
            simp only [h1, h2, beq_self_eq_true, Bool.true_and] at e
            rw [e]
            rfl
          · rw [if_neg h2]; rfl
        · rw [if_neg h1]; rfl
  have := go L.length 0 (by omega)
  rw [List.drop_zero] at this
  exact this
theorem run_loop {σ β : Type} (n : Nat) (g : Nat → Nat → σ → Option β) (st : Nat → σ) (e : Nat → σ → Option β) (r : β) (h1 : ∀ i k, i < n → g (k + 1) i (st i) = g k (i + 1) (st (i + 1))) (h2 : ∀ k, g (k + 1) n (st n) = e k (st n)) (h3 : Ev (fun k => e k (st n)) r) : Ev (fun k => g k 0 (st 0)) r := by
  have go : ∀ (m i : Nat), i + m = n → Ev (fun k => g k i (st i)) r := by
    intro m
    induction m with
    | zero => intro i hi; obtain rfl : i = n := (by omega); exact Ev.step (fun k => h2 k) h3
    | succ m ih => intro i hi; exact Ev.step (fun k => h1 i k (by omega)) (ih (i + 1) (by omega))
  exact go n 0 (by omega)
theorem take_snoc {α : Type} {L : List α} {i : Nat} {x : α} (hx : L[i]? = some x) : L.take (i + 1) = L.take i ++ [x] := by rw [List.take_add_one, hx]; rfl
theorem ex_get {α : Type} {L : List α} {i : Nat} (h : i < L.length) : ∃ x, L[i]? = some x := ⟨_, List.getElem?_eq_getElem h⟩
theorem both_ev (ps : List S37) (ss : List S46) (ws qs : List S37) (ts : List S46) (vs : List S37) (h1 : ps.length + qs.length < 4398046511104) (h2 : ss.length + ts.length < 2513169434916) (h3 : ws.length + vs.length < 4398046511104) : Ev (fun k => vellumref17_both.f k ps ss ws qs ts vs) (ps ++ qs, ss ++ ts, ws ++ vs) := by
  unfold vellumref17_both.f
  refine Ev.congr (fun k => ?_) (run_loop ps.length (fun k i acc => vellumref17_both.l0 k (i : Int) ps ss ws qs ts vs  acc) (fun i => ps.take i) (fun k acc => vellumref17_both.l1 k 0 ps ss ws qs ts vs acc) (ps ++ qs, ss ++ ts, ws ++ vs) (fun i k hi => ?_) (fun k => ?_) ?_)
  · simp only [List.take_zero]
    rfl
  · obtain ⟨x, hx⟩ := ex_get hi
    show vellumref17_both.l0 (k + 1) (i : Int) ps ss ws qs ts vs  _ = vellumref17_both.l0 k ((i + 1 : Nat) : Int) ps ss ws qs ts vs  _
    simp only [vellumref17_both.l0]
    rw [if_pos (by omega), if_pos (by omega), if_pos (by simp only [List.length_append, List.length_take]; omega), rd37 hx, wrap64_id (by omega) (by omega), take_snoc hx]
    rfl
  · simp only [vellumref17_both.l0]
    rw [if_neg (by omega)]
  simp only [List.take_length]
  refine Ev.congr (fun k => ?_) (run_loop qs.length (fun k i acc => vellumref17_both.l1 k (i : Int) ps ss ws qs ts vs  acc) (fun i => ps ++ qs.take i) (fun k acc => vellumref17_both.l2 k 0 ps ss ws qs ts vs acc []) (ps ++ qs, ss ++ ts, ws ++ vs) (fun i k hi => ?_) (fun k => ?_) ?_)
  · simp only [List.take_zero, List.append_nil]
    rfl
  · obtain ⟨x, hx⟩ := ex_get hi
    show vellumref17_both.l1 (k + 1) (i : Int) ps ss ws qs ts vs  _ = vellumref17_both.l1 k ((i + 1 : Nat) : Int) ps ss ws qs ts vs  _
    simp only [vellumref17_both.l1]
    rw [if_pos (by omega), if_pos (by omega), if_pos (by simp only [List.length_append, List.length_take]; omega), rd37 hx, wrap64_id (by omega) (by omega), take_snoc hx, ← List.append_assoc]
    rfl
  · simp only [vellumref17_both.l1]
    rw [if_neg (by omega)]
  simp only [List.take_length]
  refine Ev.congr (fun k => ?_) (run_loop ss.length (fun k i acc => vellumref17_both.l2 k (i : Int) ps ss ws qs ts vs (ps ++ qs) acc) (fun i => ss.take i) (fun k acc => vellumref17_both.l3 k 0 ps ss ws qs ts vs (ps ++ qs) acc) (ps ++ qs, ss ++ ts, ws ++ vs) (fun i k hi => ?_) (fun k => ?_) ?_)
  · simp only [List.take_zero]
    rfl
  · obtain ⟨x, hx⟩ := ex_get hi
    show vellumref17_both.l2 (k + 1) (i : Int) ps ss ws qs ts vs (ps ++ qs) _ = vellumref17_both.l2 k ((i + 1 : Nat) : Int) ps ss ws qs ts vs (ps ++ qs) _
    simp only [vellumref17_both.l2]
    rw [if_pos (by omega), if_pos (by omega), if_pos (by simp only [List.length_append, List.length_take]; omega), rd46 hx, wrap64_id (by omega) (by omega), take_snoc hx]
    rfl
  · simp only [vellumref17_both.l2]
    rw [if_neg (by omega)]
  simp only [List.take_length]
  refine Ev.congr (fun k => ?_) (run_loop ts.length (fun k i acc => vellumref17_both.l3 k (i : Int) ps ss ws qs ts vs (ps ++ qs) acc) (fun i => ss ++ ts.take i) (fun k acc => vellumref17_both.l4 k 0 ps ss ws qs ts vs (ps ++ qs) acc []) (ps ++ qs, ss ++ ts, ws ++ vs) (fun i k hi => ?_) (fun k => ?_) ?_)
  · simp only [List.take_zero, List.append_nil]
    rfl
  · obtain ⟨x, hx⟩ := ex_get hi
    show vellumref17_both.l3 (k + 1) (i : Int) ps ss ws qs ts vs (ps ++ qs) _ = vellumref17_both.l3 k ((i + 1 : Nat) : Int) ps ss ws qs ts vs (ps ++ qs) _
    simp only [vellumref17_both.l3]
    rw [if_pos (by omega), if_pos (by omega), if_pos (by simp only [List.length_append, List.length_take]; omega), rd46 hx, wrap64_id (by omega) (by omega), take_snoc hx, ← List.append_assoc]
    rfl
  · simp only [vellumref17_both.l3]
    rw [if_neg (by omega)]
  simp only [List.take_length]
  refine Ev.congr (fun k => ?_) (run_loop ws.length (fun k i acc => vellumref17_both.l4 k (i : Int) ps ss ws qs ts vs (ps ++ qs) (ss ++ ts) acc) (fun i => ws.take i) (fun k acc => vellumref17_both.l5 k 0 qs ts vs (ps ++ qs) (ss ++ ts) acc) (ps ++ qs, ss ++ ts, ws ++ vs) (fun i k hi => ?_) (fun k => ?_) ?_)
  · simp only [List.take_zero]
    rfl
  · obtain ⟨x, hx⟩ := ex_get hi
    show vellumref17_both.l4 (k + 1) (i : Int) ps ss ws qs ts vs (ps ++ qs) (ss ++ ts) _ = vellumref17_both.l4 k ((i + 1 : Nat) : Int) ps ss ws qs ts vs (ps ++ qs) (ss ++ ts) _
    simp only [vellumref17_both.l4]
    rw [if_pos (by omega), if_pos (by omega), if_pos (by simp only [List.length_append, List.length_take]; omega), rd37 hx, wrap64_id (by omega) (by omega), take_snoc hx]
    rfl
  · simp only [vellumref17_both.l4]
    rw [if_neg (by omega)]
  simp only [List.take_length]
  refine Ev.congr (fun k => ?_) (run_loop vs.length (fun k i acc => vellumref17_both.l5 k (i : Int) qs ts vs (ps ++ qs) (ss ++ ts) acc) (fun i => ws ++ vs.take i) (fun k acc => some (ps ++ qs, ss ++ ts, acc)) (ps ++ qs, ss ++ ts, ws ++ vs) (fun i k hi => ?_) (fun k => ?_) ?_)
  · simp only [List.take_zero, List.append_nil]
    rfl
  · obtain ⟨x, hx⟩ := ex_get hi
    show vellumref17_both.l5 (k + 1) (i : Int) qs ts vs (ps ++ qs) (ss ++ ts) _ = vellumref17_both.l5 k ((i + 1 : Nat) : Int) qs ts vs (ps ++ qs) (ss ++ ts) _
    simp only [vellumref17_both.l5]
    rw [if_pos (by omega), if_pos (by omega), if_pos (by simp only [List.length_append, List.length_take]; omega), rd37 hx, wrap64_id (by omega) (by omega), take_snoc hx, ← List.append_assoc]
    rfl
  · simp only [vellumref17_both.l5]
    rw [if_neg (by omega)]
  simp only [List.take_length]
  exact Ev.pure
theorem copy_ev (ps : List S37) (ss : List S46) (ws : List S37) (h1 : ps.length < 4398046511104) (h2 : ss.length < 2513169434916) (h3 : ws.length < 4398046511104) : Ev (fun k => vellumref17_Copy.f k ps ss ws) (ps, ss, ws) := by
  unfold vellumref17_Copy.f
  have h := both_ev ps ss ws [] [] [] (by simpa using h1) (by simpa using h2) (by simpa using h3)
  simp only [List.append_nil] at h
  exact Ev.bind (F := fun _ t => some (t.1, t.2.1, t.2.2)) h Ev.pure
theorem same_ev (ps : List S37) (ss : List S46) (ws : List S37) (h1 : ps.length < 4398046511104) (h2 : ss.length < 2513169434916) (h3 : ws.length < 4398046511104) : Ev (fun k => vellumref17_Same.f k ps ss ws ps ss ws) true := by
  unfold vellumref17_Same.f
  refine Ev.pos rfl (Ev.pos rfl (Ev.step (g := fun k => vellumref17_Same.l0 k 0 ps ss ws ps ss ws) (fun k => ?_) ?_))
  · simp only [vellumref17_Same.j0, bne_self_eq_false, Bool.false_eq_true, if_false]
  refine Ev.congr (fun k => rfl) (run_loop ps.length (fun k i (_ : Unit) => vellumref17_Same.l0 k (i : Int) ps ss ws ps ss ws) (fun i => ()) (fun k _ => vellumref17_Same.l1 k 0 ps ss ws ps ss ws) true (fun i k hi => ?_) (fun k => ?_) ?_)
  · show vellumref17_Same.l0 (k + 1) (i : Int) ps ss ws ps ss ws = vellumref17_Same.l0 k ((i + 1 : Nat) : Int) ps ss ws ps ss ws
    simp only [vellumref17_Same.l0, beq_self_eq_true, Bool.not_true, Bool.or_false, Bool.false_eq_true, if_false]
    rw [if_pos (by omega), if_pos (by omega), if_pos (by omega), wrap64_id (by omega) (by omega)]
    rfl
  · simp only [vellumref17_Same.l0]
    rw [if_neg (by omega)]
  refine Ev.congr (fun k => rfl) (run_loop ss.length (fun k i (_ : Unit) => vellumref17_Same.l1 k (i : Int) ps ss ws ps ss ws) (fun i => ()) (fun k _ => vellumref17_Same.l2 k 0 ps ss ws ps ss ws) true (fun i k hi => ?_) (fun k => ?_) ?_)
  · show vellumref17_Same.l1 (k + 1) (i : Int) ps ss ws ps ss ws = vellumref17_Same.l1 k ((i + 1 : Nat) : Int) ps ss ws ps ss ws
    simp only [vellumref17_Same.l1, beq_self_eq_true, Bool.not_true, Bool.or_false, Bool.false_eq_true, if_false]
    rw [if_pos (by omega), if_pos (by omega), if_pos (by omega), wrap64_id (by omega) (by omega)]
    rfl
  · simp only [vellumref17_Same.l1]
    rw [if_neg (by omega)]
  refine Ev.congr (fun k => rfl) (run_loop ws.length (fun k i (_ : Unit) => vellumref17_Same.l2 k (i : Int) ps ss ws ps ss ws) (fun i => ()) (fun k _ => some true) true (fun i k hi => ?_) (fun k => ?_) ?_)
  · show vellumref17_Same.l2 (k + 1) (i : Int) ps ss ws ps ss ws = vellumref17_Same.l2 k ((i + 1 : Nat) : Int) ps ss ws ps ss ws
    simp only [vellumref17_Same.l2, beq_self_eq_true, Bool.not_true, Bool.or_false, Bool.false_eq_true, if_false]
    rw [if_pos (by omega), if_pos (by omega), if_pos (by omega), wrap64_id (by omega) (by omega)]
    rfl
  · simp only [vellumref17_Same.l2]
    rw [if_neg (by omega)]
  exact Ev.pure
theorem contains_ev (L : List S37) (p : S37) (hl : L.length < 4611686018427387904) : Ev (fun k => api_Point_34.f k L p.f0 p.f1 p.f2) (L.any (eqP p)) := by
  unfold api_Point_34.f api_Point_63.f
  have go : ∀ (m i : Nat), i + m = L.length → ∃ r : Int, Ev (fun k => api_Point_63.l0 k L (L.length : Int) (i : Int) p.f0 p.f1 p.f2) r ∧ decide (r ≥ 0) = (L.drop i).any (eqP p) := by
    intro m
    induction m with
    | zero =>
      intro i hi
      refine ⟨-1, Ev.from_ 1 fun k => ?_, ?_⟩
      · simp only [api_Point_63.l0]
        rw [if_neg (by omega)]
      · rw [List.drop_eq_nil_of_le (by omega)]; rfl
    | succ m ih =>
      intro i hi
      obtain ⟨x, hx⟩ := ex_get (L := L) (i := i) (by omega)
      rw [any_drop hx]
      by_cases e : eqP p x = true
      · refine ⟨i, Ev.from_ 1 fun k => ?_, ?_⟩
        · simp only [api_Point_63.l0]
          have e' := e
          unfold eqP at e'
          rw [if_pos (by omega), if_pos (by omega), if_pos (by omega), rd37 hx, if_pos e']
        · rw [e, Bool.true_or]; simp
      · obtain ⟨r, h1, h2⟩ := ih (i + 1) (by omega)
        rw [Bool.not_eq_true] at e
        refine ⟨r, Ev.step (fun k => ?_) h1, by rw [e, Bool.false_or]; exact h2⟩
        simp only [api_Point_63.l0]
        have e' : ¬ eqP p x = true := by rw [e]; decide
        unfold eqP at e'
        rw [if_pos (by omega), if_pos (by omega), if_pos (by omega), rd37 hx, if_neg e', wrap64_id (by omega) (by omega)]
        rfl
  obtain ⟨r, h1, h2⟩ := go L.length 0 (by omega)
  rw [List.drop_zero] at h2
  rw [← h2]
  exact Ev.bind (F := fun _ t => some (decide (t ≥ 0))) h1 Ev.pure
instance : DecidableEq S37 := fun a b => if h : eqP a b = true then isTrue ((eqP_iff a b).1 h) else isFalse (fun e => h ((eqP_iff a b).2 e))
def mergeP : List S37 → List S37 → List S37
  | [], [] => []
  | x :: a, [] => x :: mergeP a []
  | [], y :: b => y :: mergeP [] b
  | x :: a, y :: b => if ltP x y then x :: mergeP a (y :: b) else if x = y then y :: mergeP a b else y :: mergeP (x :: a) b
termination_by a b => a.length + b.length
decreasing_by all_goals (simp only [List.length_cons]; omega)
theorem merge_mem (z : S37) : ∀ (n : Nat) (a b : List S37), a.length + b.length = n → (z ∈ mergeP a b ↔ z ∈ a ∨ z ∈ b) := by
  intro n
  induction n using Nat.strongRecOn with
  | _ n ih =>
    intro a b hn
    cases a with
    | nil =>
      cases b with
      | nil => unfold mergeP; simp
      | cons y b => unfold mergeP; rw [List.mem_cons, ih b.length (by rw [← hn]; simp) [] b (by simp)]; simp
    | cons x a =>
      cases b with
      | nil => unfold mergeP; rw [List.mem_cons, ih a.length (by rw [← hn]; simp) a [] (by simp)]; simp
      | cons y b =>
        unfold mergeP
        split
        · rw [List.mem_cons, ih (a.length + (y :: b).length) (by rw [← hn]; simp only [List.length_cons]; omega) a (y :: b) rfl]
          simp only [List.mem_cons]
          exact or_assoc.symm
        · split
          · rename_i e
            subst e
            rw [List.mem_cons, ih (a.length + b.length) (by rw [← hn]; simp only [List.length_cons]; omega) a b rfl]
            simp only [List.mem_cons]
            exact ⟨fun h => h.elim (fun h => .inl (.inl h)) (fun h => h.elim (fun h => .inl (.inr h)) (fun h => .inr (.inr h))), fun h => h.elim (fun h => h.elim .inl (fun h => .inr (.inl h))) (fun h => h.elim .inl (fun h => .inr (.inr h)))⟩
          · rw [List.mem_cons, ih ((x :: a).length + b.length) (by rw [← hn]; simp only [List.length_cons]; omega) (x :: a) b rfl]
            simp only [List.mem_cons]
            exact ⟨fun h => h.elim (fun h => .inr (.inl h)) (fun h => h.elim .inl (fun h => .inr (.inr h))), fun h => h.elim (fun h => .inr (.inl h)) (fun h => h.elim .inl (fun h => .inr (.inr h)))⟩
theorem merge_len : ∀ (n : Nat) (a b : List S37), a.length + b.length = n → (mergeP a b).length ≤ n := by
  intro n
  induction n using Nat.strongRecOn with
  | _ n ih =>
    intro a b hn
    cases a with
    | nil =>
      cases b with
      | nil => unfold mergeP; simp
      | cons y b => unfold mergeP; have := ih b.length (by rw [← hn]; simp) [] b (by simp); simp only [List.length_cons, List.length_nil] at *; omega
    | cons x a =>
      cases b with
      | nil => unfold mergeP; have := ih a.length (by rw [← hn]; simp) a [] (by simp); simp only [List.length_cons, List.length_nil] at *; omega
      | cons y b =>
        unfold mergeP
        split
        · have := ih (a.length + (y :: b).length) (by rw [← hn]; simp only [List.length_cons]; omega) a (y :: b) rfl
          simp only [List.length_cons] at *; omega
        · split
          · have := ih (a.length + b.length) (by rw [← hn]; simp only [List.length_cons]; omega) a b rfl
            simp only [List.length_cons] at *; omega
          · have := ih ((x :: a).length + b.length) (by rw [← hn]; simp only [List.length_cons]; omega) (x :: a) b rfl
            simp only [List.length_cons] at *; omega
theorem merge_sorted : ∀ (n : Nat) (a b : List S37), a.length + b.length = n → a.Pairwise ltP → b.Pairwise ltP → (mergeP a b).Pairwise ltP := by
  intro n
  induction n using Nat.strongRecOn with
  | _ n ih =>
    intro a b hn ha hb
    cases a with
    | nil =>
      cases b with
      | nil => unfold mergeP; exact List.Pairwise.nil
      | cons y b =>
        unfold mergeP
        obtain ⟨h1, h2⟩ := List.pairwise_cons.1 hb
        refine List.pairwise_cons.2 ⟨fun z hz => ?_, ih b.length (by rw [← hn]; simp) [] b (by simp) List.Pairwise.nil h2⟩
        rcases (merge_mem z _ [] b rfl).1 hz with h | h
        · cases h
        · exact h1 z h
    | cons x a =>
      obtain ⟨g1, g2⟩ := List.pairwise_cons.1 ha
      cases b with
      | nil =>
        unfold mergeP
        refine List.pairwise_cons.2 ⟨fun z hz => ?_, ih a.length (by rw [← hn]; simp) a [] (by simp) g2 List.Pairwise.nil⟩
        rcases (merge_mem z _ a [] rfl).1 hz with h | h
        · exact g1 z h
        · cases h
      | cons y b =>
        obtain ⟨h1, h2⟩ := List.pairwise_cons.1 hb
        unfold mergeP
        split
        · rename_i e
          refine List.pairwise_cons.2 ⟨fun z hz => ?_, ih (a.length + (y :: b).length) (by rw [← hn]; simp only [List.length_cons]; omega) a (y :: b) rfl g2 hb⟩
          rcases (merge_mem z _ a (y :: b) rfl).1 hz with h | h
          · exact g1 z h
          · rcases List.mem_cons.1 h with rfl | h
            · exact e
            · exact ltP_trans e (h1 z h)
        · rename_i hlt
          split
          · rename_i e
            subst e
            refine List.pairwise_cons.2 ⟨fun z hz => ?_, ih (a.length + b.length) (by rw [← hn]; simp only [List.length_cons]; omega) a b rfl g2 h2⟩
            exact ((merge_mem z _ a b rfl).1 hz).elim (g1 z) (h1 z)
          · rename_i hne
            have hyx : ltP y x := by
              rcases ltP_tri x y with h | h | h
              · exact absurd h hlt
              · exact absurd h hne
              · exact h
            refine List.pairwise_cons.2 ⟨fun z hz => ?_, ih ((x :: a).length + b.length) (by rw [← hn]; simp only [List.length_cons]; omega) (x :: a) b rfl ha h2⟩
            rcases (merge_mem z _ (x :: a) b rfl).1 hz with h | h
            · rcases List.mem_cons.1 h with rfl | h
              · exact hyx
              · exact ltP_trans hyx (g1 z h)
            · exact h1 z h
def Sorts (l r : List S37) : Prop := r.Pairwise ltP ∧ (∀ z, z ∈ r ↔ z ∈ l) ∧ r.length ≤ l.length
theorem sorts_one {l : List S37} (h : l.length < 2) : Sorts l l := by
  refine ⟨?_, fun z => Iff.rfl, Nat.le_refl _⟩
  match l, h with
  | [], _ => exact List.Pairwise.nil
  | [x], _ => exact List.pairwise_singleton _ _
theorem sorts_merge {l a b : List S37} {n : Nat} (ha : Sorts (l.take n) a) (hb : Sorts (l.drop n) b) : Sorts l (mergeP a b) := by
  refine ⟨merge_sorted _ a b rfl ha.1 hb.1, fun z => ?_, ?_⟩
  · rw [merge_mem z _ a b rfl, ha.2.1, hb.2.1, ← List.mem_append, List.take_append_drop]
  · have h1 := merge_len _ a b rfl
    have h2 := ha.2.2
    have h3 := hb.2.2
    rw [List.length_take] at h2
    rw [List.length_drop] at h3
    omega
end Go.Proofs.YtldlenjfpjihdaaGreat.PS
end
section
namespace Go.Proofs.YtldlenjfpjihdaaGreat.PS
open Go Go.RowKit Go.Proofs Go.Maps Go.WideMaps Go.Proofs.YtldlenjfpjihdaaGreatW.PrintWords
set_option linter.unusedVariables false
set_option linter.unusedSimpArgs false
def pv (x : S37) : Value := .agg #[.int .i64 x.f0, .int .i64 x.f1, .string x.f2]
def wfP (x : S37) : Prop := (Lit.int .i64 x.f0).wf = true ∧ (Lit.int .i64 x.f1).wf = true ∧ x.f2.size ≤ maxLen
def pk (x : S37) : Lit := .string (keyBytes [.int .i64 x.f0, .int .i64 x.f1, .string x.f2.data.toList])
theorem laidOut_ : laidOutB Tryz.prog = true := by kernel_rfl
theorem row37 : (37 : TypeId) < Tryz.prog.types.size := of_decide_eq_true (by kernel_rfl)
theorem wide37 : (match Tryz.prog.underlying 37 with | some (.array _ _) | some (.struct _) => true | _ => false) = true := by rw [Tryz.underlying37]
set_option maxRecDepth 100000 in
theorem law37 : KeyLaw Tryz.prog 37 := deep_law_laid laidOut_ (m := 2) (by omega) row37 (by kernel_rfl) wide37
theorem kmap : Keyed Tryz.prog 37 := Keyed.of_law law37
theorem kt37 : Tryz.prog.keyType 37 = true := by kernel_rfl
theorem size37 : Tryz.prog.cellsOf 37 = 3 := by kernel_rfl
theorem size3 : Tryz.prog.cellsOf 3 = 1 := by kernel_rfl
theorem size9 : Tryz.prog.cellsOf 9 = 1 := by kernel_rfl
set_option maxRecDepth 100000 in
theorem msize : ∃ m, Tryz.prog.types.size = m + 1 := ⟨Tryz.prog.types.size - 1, (Nat.succ_pred_eq_of_pos (Nat.lt_of_le_of_lt (Nat.zero_le _) row37)).symm⟩
theorem kpt {x : S37} (h : wfP x) : keyOf Tryz.prog 37 (pv x) = some (pk x) := by
  have hkt := kt37
  obtain ⟨m, hm⟩ := msize
  obtain ⟨h0, h1, h2⟩ := h
  unfold keyOf pv pk
  simp only [Tryz.underlying37]
  rw [if_pos (by simp [hkt, Value.formed, Tryz.underlying37, size37]), hm]
  unfold Program.keyLits
  simp only [Tryz.underlying37, Value.cells]
  rw [if_pos ⟨by rw [size37]; rfl, by kernel_rfl⟩]
  simp [size3, size9, Program.keyLits, Tryz.underlying3, Tryz.underlying9, h0, h1, h2]
theorem pv_inj {x y : S37} (h : pv x = pv y) : x = y := by
  cases x; cases y
  simpa [pv] using h
theorem pk_inj {x y : S37} (hx : wfP x) (hy : wfP y) (h : pk x = pk y) : x = y := by
  have h1 := kpt hx
  rw [h] at h1
  exact pv_inj (kmap.inj h1 (kpt hy))
def ru : Value → Option (DataW Unit × List MemPlace)
  | .agg ⟨[]⟩ => some (.nil, [])
  | _ => none
theorem ru_inv {v : Value} {x : DataW Unit × List MemPlace} (h : ru v = some x) : v = .agg #[] := by
  unfold ru at h
  split at h
  · rfl
  · cases h
def PM (w : World) (m nn : Nat) (L : List S37) : Prop := ∃ D : DataW Unit, w.ownsMap Tryz.prog 37 ru m nn D ∧ ∀ x, wfP x → Maps.has D (pk x) = L.any (eqP x)
theorem PM.blk {w : World} {m nn : Nat} {L : List S37} (h : PM w m nn L) : ∃ es clock, w.heap[m]? = some (.map es clock) := by
  obtain ⟨D, ⟨es, clock, h1, _⟩, _⟩ := h
  exact ⟨es, clock, h1⟩
theorem PM.same {w w' : World} {m nn : Nat} {L : List S37} (h : PM w m nn L) (hm : w'.heap[m]? = w.heap[m]?) : PM w' m nn L := by
  obtain ⟨D, ⟨es, clock, h1, h2⟩, h3⟩ := h
  exact ⟨D, ⟨es, clock, hm.trans h1, h2⟩, h3⟩
theorem PM.lt {w : World} {m nn : Nat} {L : List S37} (h : PM w m nn L) : m < w.heap.size := by
  obtain ⟨es, clock, h1⟩ := h.blk
  exact (Array.getElem?_eq_some_iff.1 h1).1
theorem PM.below {w w' : World} {m nn : Nat} {L : List S37} (h : PM w m nn L) (hb : Below w.heap.size w w') : PM w' m nn L := h.same (hb.block m h.lt)
theorem PM.new (w : World) : PM (w.alloc (.map #[] 0)) w.heap.size 0 [] :=
  ⟨.map [], World.ownsMap_made w Tryz.prog 37 ru, fun x _ => rfl⟩
theorem PM.look {w : World} {m nn : Nat} {L : List S37} (h : PM w m nn L) {x : S37} (hx : wfP x) :
    (Instr.lookup 59 (.map (some m)) (pv x) true).run Tryz.prog w = .ok (.tuple #[.agg #[], .bool (L.any (eqP x))]) w := by
  obtain ⟨D, ho, hh⟩ := h
  obtain ⟨v, ps, hrun, hv⟩ := ho.look_ok kmap Tryz.underlying59 (Tryz.zeroValue60 _) (zd := .nil) (zp := []) rfl (kpt hx)
  rw [hh x hx, ru_inv hv] at hrun
  exact hrun
theorem PM.put {w : World} {m nn : Nat} {L : List S37} (h : PM w m nn L) (hn : nn < maxLen) {x : S37} (hx : wfP x) :
    ∃ w', (Instr.mapUpdate 59 (.map (some m)) (pv x) (.agg #[])).run Tryz.prog w = .ok () w' ∧ PM w' m (nn + 1) (L ++ [x]) ∧ w.grownBy w' (some m) := by
  obtain ⟨D, ho, hh⟩ := h
  obtain ⟨w', hrun, h1, h2⟩ := ho.update kmap Tryz.underlying59 hn (kpt hx) (d := .nil) (ps := []) (val := .agg #[]) rfl
  refine ⟨w', hrun, ⟨_, h1, fun y hy => ?_⟩, h2⟩
  rw [List.any_append]
  have hD : IsMap D := by obtain ⟨es, clock, _, _, _, rfl⟩ := ho; exact ⟨_, rfl⟩
  by_cases e : y = x
  · subst e
    have e2 : eqP y y = true := (eqP_iff y y).2 rfl
    rw [has_put_same hD (kmap.key (kpt hx))]
    simp [e2]
  · have e2 : eqP y x = false := by rw [← Bool.not_eq_true]; exact fun h => e ((eqP_iff y x).1 h)
    rw [has_put_other (fun h => e (pk_inj hy hx h)), hh y hy]
    simp [e2]
end Go.Proofs.YtldlenjfpjihdaaGreat.PS
end
section
namespace Go.Proofs.YtldlenjfpjihdaaGreat.PS
open Go Go.RowKit Go.Proofs Go.Maps Go.WideMaps
set_option linter.unusedVariables false
theorem keyInt_inv {P : Program} {d : Nat} {t : TypeId} {q : IntKind} (hu : P.underlying t = some (.int q)) {cs : List Value} {ls : List Lit} (h : P.keyLits (d + 1) t cs = some ls) : ∃ n, cs = [.int q n] ∧ (Lit.int q n).wf = true ∧ ls = [.int q n] := by
  unfold Program.keyLits at h
  rw [hu] at h
  match cs, h with
  | [.int q' n], h =>
    simp only at h
    split at h
    · rename_i hc
      obtain ⟨rfl, hw⟩ := hc
      exact ⟨n, rfl, hw, (Option.some.inj h).symm⟩
    · cases h
theorem keyStr_inv {P : Program} {d : Nat} {t : TypeId} (hu : P.underlying t = some .string) {cs : List Value} {ls : List Lit} (h : P.keyLits (d + 1) t cs = some ls) : ∃ s : ByteArray, cs = [.string s] ∧ s.size ≤ maxLen ∧ ls = [.string s.data.toList] := by
  unfold Program.keyLits at h
  rw [hu] at h
  match cs, h with
  | [.string s], h =>
    simp only at h
    split at h
    · rename_i hc
      exact ⟨s, rfl, hc, (Option.some.inj h).symm⟩
    · cases h
theorem keyOf_struct_inv {P : Program} {k : TypeId} {fs : Array Field} (hu : P.underlying k = some (.struct fs)) {v : Value} {kl : Lit} (h : keyOf P k v = some kl) :
    ∃ (cs : Array Value) (ls : List Lit), v = .agg cs ∧ cs.size = P.cellsOf k ∧ (fs.toList.mapM fun f => P.keyLits P.types.size f.type ((cs.toList.drop f.offset).take (P.cellsOf f.type))).map List.flatten = some ls ∧ kl = .string (keyBytes ls) := by
  unfold keyOf at h
  simp only [hu] at h
  split at h
  · rename_i hc
    rw [Bool.and_eq_true] at hc
    obtain ⟨_, hf⟩ := hc
    cases v <;> simp only [Value.formed, hu, Bool.false_eq_true] at hf
    case agg cs =>
      obtain ⟨ls, h1, h2⟩ := Option.map_eq_some_iff.1 h
      unfold Program.keyLits at h1
      simp only [hu] at h1
      split at h1
      · exact ⟨cs, ls, rfl, by simpa using hf, h1, h2.symm⟩
      · cases h1
  · cases h
set_option maxRecDepth 100000 in
theorem PPinv {v : Value} {kl : Lit} (h : keyOf Tryz.prog 37 v = some kl) : ∃ x : S37, v = pv x ∧ wfP x ∧ kl = pk x := by
  obtain ⟨cs, ls, rfl, hsz, h1, rfl⟩ := keyOf_struct_inv Tryz.underlying37 h
  obtain ⟨m, hm⟩ := msize
  rw [size37] at hsz
  obtain ⟨l⟩ := cs
  match l, hsz with
  | [c0, c1, c2], _ =>
    rw [hm] at h1
    simp only [List.mapM_cons, List.mapM_nil, size3, size9, Option.map_eq_map, Option.bind_eq_bind, List.drop_zero, List.take_succ_cons, List.take_zero, List.drop_succ_cons] at h1
    obtain ⟨ls', h2, rfl⟩ := Option.map_eq_some_iff.1 h1
    obtain ⟨a0, e0, h3⟩ := Option.bind_eq_some_iff.1 h2
    obtain ⟨rest, h4, p1⟩ := Option.bind_eq_some_iff.1 h3
    obtain ⟨a1, e1, h5⟩ := Option.bind_eq_some_iff.1 h4
    obtain ⟨rest2, h6, p2⟩ := Option.bind_eq_some_iff.1 h5
    obtain ⟨a2, e2, h7⟩ := Option.bind_eq_some_iff.1 h6
    clear h h1 h2 h3 h4 h5 h6
    obtain ⟨n0, g0, w0, rfl⟩ := keyInt_inv Tryz.underlying3 e0
    obtain ⟨n1, g1, w1, rfl⟩ := keyInt_inv Tryz.underlying3 e1
    obtain ⟨s2, g2, w2, rfl⟩ := keyStr_inv Tryz.underlying9 e2
    simp at g0 g1 g2 p1 p2 h7
    subst g0 g1 g2 h7 p2 p1
    exact ⟨⟨n0, n1, s2⟩, rfl, ⟨w0, w1, w2⟩, rfl⟩
end Go.Proofs.YtldlenjfpjihdaaGreat.PS
end
section
namespace Go.Proofs.YtldlenjfpjihdaaGreat.PS
open Go Go.RowKit Go.Proofs Go.Sort Go.Shelf Go.Proofs.YtldlenjfpjihdaaGreatW.PrintWords
set_option linter.unusedVariables false
set_option linter.unusedSimpArgs false
def Gr (w w' : World) : Prop := ∃ q os, w' = grow (w.drewN q) os
theorem Gr.refl (w : World) : Gr w w := ⟨0, #[], by rw [grow_empty]; rfl⟩
theorem Gr.drawn {w w' w2 : World} (h : Gr w w') (hd : Drawn0 w' w2) : Gr w w2 := by
  obtain ⟨q, os, rfl⟩ := h
  obtain ⟨n, rfl⟩ := hd.out
  exact ⟨q + n, os, by simp [grow, World.drewN, Nat.add_assoc]⟩
theorem Gr.drew {w w' : World} (h : Gr w w') : Gr w w'.drew := h.drawn ⟨⟨1, rfl⟩⟩
theorem Gr.alloc {w w' : World} (h : Gr w w') (o : Obj) : Gr w (w'.alloc o) := by
  obtain ⟨q, os, rfl⟩ := h
  exact ⟨q, os ++ #[o], by rw [alloc_eq_grow, grow_grow]⟩
theorem Gr.below {w w' : World} (h : Gr w w') : Below w.heap.size w w' := by
  obtain ⟨q, os, rfl⟩ := h
  refine ⟨rfl, rfl, rfl, by simp [grow, World.drewN], fun k hk => ?_⟩
  show (w.heap ++ os)[k]? = w.heap[k]?
  rw [Array.getElem?_append_left hk]
section
variable {α : Type} {enc : α → List Value} {C : Nat}
def RowG (enc : α → List Value) (C : Nat) (w : World) (g : Nat) (xs : List α) : Prop := ∀ (i : Nat) (x : α), xs[i]? = some x → ∀ (j : Nat) (u : Value), (enc x)[j]? = some u → w.cell? ⟨g, i * C + j, none⟩ = some u ∧ w.frozen? ⟨g, i * C + j, none⟩ = false
theorem RowG.same {w w' : World} {g : Nat} {xs : List α} (h : RowG enc C w g xs) (e : w'.heap[g]? = w.heap[g]?) : RowG enc C w' g xs := by
  intro i x hx j u hu
  have := h i x hx j u hu
  exact ⟨by simpa [World.cell?, e] using this.1, by simpa [World.frozen?, e] using this.2⟩
theorem flatMap_get (hk : ∀ x, (enc x).length = C) : ∀ {xs : List α} {i : Nat} {x : α}, xs[i]? = some x → ∀ {j : Nat} {u : Value}, (enc x)[j]? = some u → (xs.flatMap enc)[i * C + j]? = some u
  | [], i, x, h, _, _, _ => by simp at h
  | y :: r, 0, x, h, j, u, hu => by
    obtain rfl : y = x := by simpa using h
    have hj := (List.getElem?_eq_some_iff.1 hu).1
    rw [List.flatMap_cons, Nat.zero_mul, Nat.zero_add, List.getElem?_append_left hj]
    exact hu
  | y :: r, i + 1, x, h, j, u, hu => by
    have h' : r[i]? = some x := by simpa using h
    have e : (i + 1) * C + j - (enc y).length = i * C + j := by rw [hk y, Nat.succ_mul]; omega
    rw [List.flatMap_cons, List.getElem?_append_right (by rw [hk y, Nat.succ_mul]; omega), e]
    exact flatMap_get hk h' hu
def OwnG (enc : α → List Value) (C K : Nat) (w : World) (base : Nat) (v : Value) (xs : List α) : Prop :=
  (v = .slice none 0 0 ∧ xs = []) ∨ ∃ g cap cur, v = .slice (some ⟨g, 0, none⟩) xs.length cap ∧ base ≤ g ∧ w.heap[g]? = some (.cells cur K (0, 0)) ∧ xs.length ≤ cap ∧ cap ≤ maxLen ∧ cur.size = cap * C ∧ RowG enc C w g xs
theorem OwnG.of_own (hk : ∀ x, (enc x).length = C) {K base : Nat} {w : World} {v : Value} {xs : List α} (h : w.ownsRow base K C v xs.length (xs.flatMap enc)) : OwnG enc C K w base v xs := by
  rcases h.2 with ⟨rfl, h0⟩ | ⟨g, cap, cur, rfl, hg, hh, hnc, hcm, hsz, htk⟩
  · exact .inl ⟨rfl, List.eq_nil_of_length_eq_zero h0⟩
  · refine .inr ⟨g, cap, cur, rfl, hg, hh, hnc, hcm, hsz, ?_⟩
    intro i x hx j u hu
    have hi := (List.getElem?_eq_some_iff.1 hx).1
    have e := flatMap_get hk hx hu
    have hlt := (List.getElem?_eq_some_iff.1 e).1
    rw [← htk, List.getElem?_take] at e
    split at e
    · have e2 : cur[i * C + j]? = some u := by rw [← Array.getElem?_toList]; exact e
      exact ⟨by simp [World.cell?, hh, e2], by simp [World.frozen?, hh]⟩
    · cases e
theorem RowG.holds [Inhabited α] (hk : ∀ x, (enc x).length = C) (hC : 0 < C) {w : World} {g : Nat} {xs : List α} (h : RowG enc C w g xs) : HoldsK enc C w g 0 xs.toArray := by
  intro j hj
  rw [size_flatK] at hj
  have hj' : j < xs.length * C := by simpa using hj
  rw [get_flatK _ _ _ _ hj]
  have hi : j / C < xs.length := by rw [Nat.div_lt_iff_lt_mul hC]; exact hj'
  have e1 : xs.toArray[j / C]! = xs[j / C] := by simp [hi]
  have h3 : j % C < (enc xs[j / C]).length := by rw [hk]; exact Nat.mod_lt _ hC
  have := h (j / C) _ (List.getElem?_eq_getElem hi) (j % C) _ (List.getElem?_eq_getElem h3)
  have hdm : j / C * C + j % C = 0 + j := by rw [Nat.zero_add, Nat.mul_comm]; exact Nat.div_add_mod j C
  rw [hdm] at this
  rw [e1, getElem!_pos (enc xs[j / C]) (j % C) h3]
  exact this
theorem RowG.of_holds [Inhabited α] (hk : ∀ x, (enc x).length = C) {w : World} {g : Nat} {d : Array α} (h : HoldsK enc C w g 0 d) : RowG enc C w g d.toList := by
  intro i x hx j u hu
  have hj : j < C := by have := (List.getElem?_eq_some_iff.1 hu).1; rwa [hk] at this
  have hi : i < d.size := by have := (List.getElem?_eq_some_iff.1 hx).1; simpa using this
  have := h.cell hi hj
  rw [Nat.zero_add] at this
  have e1 : d[i]! = x := by
    rw [getElem!_pos d i hi]
    have := (List.getElem?_eq_some_iff.1 hx).2
    simpa using this
  have h3 : j < (enc x).length := by rw [hk]; exact hj
  have e2 : (enc x)[j]! = u := by
    rw [getElem!_pos (enc x) j h3]
    exact (List.getElem?_eq_some_iff.1 hu).2
  rw [e1, e2] at this
  exact this
theorem sortG_below [Inhabited α] {w : World} {g B : Nat} (hg : B ≤ g) (hgw : g < w.heap.size) (m : Nat) (d : Array α) (os : Array Obj) : Below B w (sortWorldK enc C w g 0 m d os) := by
  refine ⟨rfl, rfl, rfl, size_sortWorldK_c enc C w g 0 m d os, fun k hk => ?_⟩
  show ((w.heap.modify g _) ++ os)[k]? = w.heap[k]?
  rw [Array.getElem?_append_left (by simp; omega), Array.getElem?_modify, if_neg (by omega)]
theorem sortG_block [Inhabited α] {w : World} {g K : Nat} {cur : Array Value} (hh : w.heap[g]? = some (.cells cur K (0, 0))) (m : Nat) (d : Array α) (os : Array Obj) : ∃ cur', (sortWorldK enc C w g 0 m d os).heap[g]? = some (.cells cur' K (0, 0)) ∧ cur'.size = cur.size := by
  have hlt := (Array.getElem?_eq_some_iff.1 hh).1
  have e0 : (sortWorldK enc C w g 0 m d os).heap[g]? = some (Obj.cells (putCells id 0 (flatK enc C d) cur) K (0, 0)) := by
    show ((w.heap.modify g _) ++ os)[g]? = _
    rw [Array.getElem?_append_left (by simpa using hlt), Array.getElem?_modify, if_pos rfl, hh]
    rfl
  exact ⟨_, e0, by simp [putCells]⟩
theorem sortG {P : Program} {ρ : Ren} (L : SlLaysF0.n6 P ρ) [Inhabited α] (hk : ∀ x, (enc x).length = C) (hC : 0 < C) (aE : ∀ w, (isAgg (ρ.t 24)).run P w = .ok true w) (zE : ∀ w, (Go.sizeOf (ρ.t 24)).run P w = .ok C w)
    (h1 : ∀ x, ∀ v ∈ enc x, v.oneCell' = true) (cf : α → α → Int) (hO : SWO (ltOf cf)) (gc : Nat) (eg : ∀ args w, (callFunc gc args).run P w = .ok (.enter gc args) w)
    (hcmp : ∀ (W : World) (x y : α), Calls P gc #[.agg (enc x).toArray, .agg (enc y).toArray] W fun e w' => e = .returned (.int .i64 (cf x y)) ∧ Gr W w')
    {K base : Nat} {v : Value} {xs : List α} {w : World} (h : OwnG enc C K w base v xs) (hl : xs.length < 4611686018427387904) :
    Calls P (ρ.f 6) #[v, .func (.func gc) #[] #[]] w fun e w' => e = .returned (.tuple #[]) ∧ ∃ ys, ys.Perm xs ∧ ys.Pairwise (fun a b => ltOf cf b a = false) ∧ OwnG enc C K w' base v ys ∧ Below base w w' := by
  rcases h with ⟨rfl, rfl⟩ | ⟨g, cap, cur, rfl, hg, hh, hnc, hcm, hsz, hR⟩
  · exact (AnyF.slices_SortFunc_none L none 0 _ w).mono fun e w' h => ⟨h.1, [], List.Perm.refl _, List.Pairwise.nil, .inl ⟨rfl, rfl⟩, by rw [h.2]; exact Below.refl _ _⟩
  · have hgw := (Array.getElem?_eq_some_iff.1 hh).1
    have hH := hR.holds hk hC
    have h := AnyQ.slices_SortFunc L C aE zE enc hk h1 cf hO gc #[] g 0 cap xs.toArray w eg (fun m os dk hs x y => hcmp _ x y) hH hgw (by simpa using hl)
    have e0 : xs.toArray.size = xs.length := by simp
    rw [e0] at h
    refine h.mono ?_
    rintro e w' ⟨rfl, d', n, os, hperm, hsort, rfl⟩
    have hs2 : d'.size = xs.length := by have := hperm.1; simpa using this
    have hp : d'.toList.Perm xs := by
      have := hperm.2.2
      have e3 : d'.extract 0 xs.length = d' := by rw [← hs2]; simp
      have e4 : xs.toArray.extract 0 xs.length = xs.toArray := by rw [← e0]; simp
      rw [e3, e4] at this
      simpa using this
    obtain ⟨cur', hh', hsz'⟩ := sortG_block (enc := enc) (C := C) hh n d' os
    refine ⟨rfl, d'.toList, hp, ?_, .inr ⟨g, cap, cur', by rw [hp.length_eq], hg, hh', by rw [hp.length_eq]; exact hnc, hcm, by rw [hsz', hsz], RowG.of_holds hk (holdsK_sortWorldK_c enc C w g 0 _ d' n os hH hgw (by rw [hs2, e0]))⟩, sortG_below hg hgw n d' os⟩
    rw [List.pairwise_iff_getElem]
    intro i j hi hj hij
    have hi' : i < d'.size := by simpa using hi
    have hj' : j < d'.size := by simpa using hj
    have := hsort i j (Nat.zero_le _) hij (by rw [← hs2]; exact hj')
    rw [getElem!_pos d' i hi', getElem!_pos d' j hj'] at this
    simpa using this
end
end Go.Proofs.YtldlenjfpjihdaaGreat.PS
end
section
namespace Go.Proofs.YtldlenjfpjihdaaGreat.PS
open Go Go.RowKit Go.Proofs Go.Maps Go.Proofs.YtldlenjfpjihdaaGreatW.PrintWords Go.Proofs.YtldlenjfpjihdaaGreatW.PrintLast Go.Proofs.YtldlenjfpjihdaaGreatW.PrintMore
set_option linter.unusedVariables false
set_option linter.unusedSimpArgs false
theorem cell_of {w : World} {b t : Nat} {cs : Array Value} {z : Nat × Nat} (h : w.heap[b]? = some (.cells cs t z)) (i : Nat) : w.cell? ⟨b, i, none⟩ = cs[i]? := by
  simp [World.cell?, h]
theorem frozen_of {w : World} {b t : Nat} {cs : Array Value} (h : w.heap[b]? = some (.cells cs t)) (i : Nat) : w.frozen? ⟨b, i, none⟩ = false := by
  simp [World.frozen?, h]
theorem lt_of {w : World} {b : Nat} {o : Obj} (h : w.heap[b]? = some o) : b < w.heap.size := (Array.getElem?_eq_some_iff.1 h).1
theorem heap_new (w : World) (o : Obj) : (w.alloc o).heap[w.heap.size]? = some o := by
  show (w.heap.push o)[w.heap.size]? = some o
  simp
theorem heap_old {w : World} {k : Nat} {o o' : Obj} (h : w.heap[k]? = some o) : (w.alloc o').heap[k]? = some o := by
  show (w.heap.push o')[k]? = some o
  rw [Array.getElem?_push, if_neg (fun e => by have := lt_of h; omega)]
  exact h
theorem size_new (w : World) (o : Obj) : (w.alloc o).heap.size = w.heap.size + 1 := Array.size_push o
theorem setCell_heap {w : World} {b i t : Nat} {cs : Array Value} (h : w.heap[b]? = some (.cells cs t)) (v : Value) : (w.setCell ⟨b, i, none⟩ v).heap[b]? = some (.cells (cs.setIfInBounds i v) t) :=
  Go.Lib.heap_setCell_same h v
theorem below_step {w0 W W' : World} (hb : Below w0.heap.size w0 W) (hB : Below W.heap.size W W') : Below w0.heap.size w0 W' := Below.trans hb (hB.mono hb.size)
theorem results_ct {P : Program} {fn : Func} {p q : Tmp} {ty : TypeId} (h : fn.results = #[.cell p ty, .tmp q]) (tmps : Array Value) (w : World) (g : Nat) (t : TypeId) (cs : Array Value) (fr : Nat × Nat) (d : TypeDesc)
    (hp : tmps.getD p undef = .pointer (some ⟨g, 0, none⟩)) (hg : w.heap[g]? = some (.cells cs t fr))
    (hu : P.underlying ty = some d) (hd : (match d with | .struct _ | .array _ _ => true | _ => false) = true) (hi : (P.info? ty).map (·.size) = some cs.size) :
    (results fn tmps).run P w = .ok (.tuple #[.agg cs, tmps.getD q undef]) w := by
  have hp' : tmps[p]?.getD undef = .pointer (some ⟨g, 0, none⟩) := by simpa using hp
  simp [results, h, hp', asAddr, run_loadVar_row w g t ty cs fr d hg hu hd hi]
def pO (x : S37) : Obj := .cells #[.int .i64 x.f0, .int .i64 x.f1, .string x.f2] 37
def zP : S37 := ⟨0, 0, ⟨#[]⟩⟩
theorem before_any (a b : S37) (w : World) : Calls Tryz.prog 64 #[pv a, pv b] w fun e w' => e = .returned (.int .i64 (cmpP a b)) ∧ Below w.heap.size w w' := by
  obtain ⟨k, hk⟩ := (before_ev a b).ex
  exact sets_before.calls k _ _ _ _ _ _ _ w hk
def fstep (p : S37 → Bool) (acc : Option S37) (x : S37) : Option S37 := if p x = true then lstep acc x else acc
theorem fstep_take {p : S37 → Bool} {xs : List S37} {k : Nat} {y : S37} (hy : xs[k]? = some y) : (xs.take (k + 1)).foldl (fstep p) none = fstep p ((xs.take k).foldl (fstep p) none) y := by
  rw [take_snoc hy, List.foldl_append]; rfl
set_option maxHeartbeats 8000000 in
set_option maxRecDepth 100000 in
theorem least_any (p : S37 → Bool) (g : Nat) (lb : Array Value) (eg : ∀ args w, (callFunc g args).run Tryz.prog w = .ok (.enter g args) w) (A : Option Addr) (xs : List S37) (c : Nat) (w : World) (hC : Kd.C k37 w A xs.length xs)
    (hp : ∀ (W : World) (x : S37), x ∈ xs → Below w.heap.size w W → Calls Tryz.prog g (#[pv x] ++ lb) W fun e w' => e = .returned (.bool (p x)) ∧ Below W.heap.size W w') :
    Calls Tryz.prog 37 #[.slice A xs.length c, .func (.func g) #[] lb] w fun e w' => e = .returned (.tuple #[pv ((leastS (xs.filter p)).getD zP), .bool (leastS (xs.filter p)).isSome]) ∧ Below w.heap.size w w' := by
  have HC := Aside0.mk hC
  have hmax : xs.length ≤ 9223372036854775807 := hC.2.1
  have hfold : xs.foldl (fstep p) none = leastS (xs.filter p) := foldl_filter p xs none
  have HFo := Aside0.mk hfold
  have HPp := Aside0.mk hp
  clear hC hfold hp
  go_enter Tryz.func37, Tryz.ntmps37
  go_wp2
  go_loopg [7, 12] xs.length (fun gg s7 s12 wr => ∃ (k : Nat) (acc : Option S37), s7 = .bool acc.isSome ∧ s12 = .int .i64 k ∧ k ≤ xs.length ∧ Aside0 (xs.length - k ≤ gg) ∧ Aside0 (acc = (xs.take k).foldl (fstep p) none) ∧ Aside0 (wr.heap[w.heap.size + 1]? = some (pO (acc.getD zP))) ∧ Aside0 (wr.heap[w.heap.size]? = some (pO zP)) ∧ Aside0 (Below w.heap.size w wr))
  case atStart => exact ⟨0, none, rfl, rfl, Nat.zero_le _, ⟨by omega⟩, ⟨rfl⟩, ⟨by have := heap_new (w.alloc (pO zP)) (pO zP); rw [size_new] at this; exact this⟩, ⟨heap_old (heap_new w (pO zP))⟩, ⟨below_alloc (below_alloc (Below.refl _ _) _) _⟩⟩
  case round =>
    obtain ⟨k, acc, rfl, rfl, hk, HM, HA, HO, HZ, HB⟩ := hrel
    by_cases hlt : k < xs.length
    · have hltz : (k : Int) < (xs.length : Int) := by omega
      obtain ⟨ad, ea, a0, a1, a2⟩ := at_T37 HC.out (k : Int) (by omega) hltz
      subst ea
      obtain ⟨y, hy⟩ := ex_get hlt
      rw [rd37 hy] at a0 a1 a2
      simp only [Int.toNat_natCast] at a0 a1 a2
      replace a0 := (HB.out.cell (World.block_lt_of_cell? _ _ a0)).trans a0
      replace a1 := (HB.out.cell (World.block_lt_of_cell? _ _ a1)).trans a1
      replace a2 := (HB.out.cell (World.block_lt_of_cell? _ _ a2)).trans a2
      have HY := Aside0.mk hy
      have HFS := Aside0.mk (fstep_take (p := p) hy)
      have HMem := Aside0.mk (List.mem_of_getElem? hy)
      have hz0 := lt_of HO.out
      have n1 : (w.heap.size + 1 = wr.heap.size) = False := eq_false (by omega)
      have n2 : (wr.heap.size = w.heap.size + 1) = False := eq_false (by omega)
      have HN := Aside0.mk (heap_new wr (pO y))
      have HO1 := Aside0.mk (heap_old (o' := pO y) HO.out)
      have HZ1 := Aside0.mk (heap_old (o' := pO y) HZ.out)
      have HB1 := Aside0.mk (below_alloc HB.out (pO y))
      clear hy
      cases hacc : acc with
      | none =>
        subst hacc
        cases hq : p y with
        | true =>
          have HPq := Aside0.mk (fun W h => by have := HPp.out W y HMem.out h; rwa [hq] at this)
          have HS := Aside0.mk (show fstep p none y = some y by unfold fstep lstep; simp [hq])
          clear HPp hq
          go_wp2_with (first | (go_at_fn g; refine (HPq.out _ HB1.out).mono ?_; rintro e w3 ⟨rfl, hb⟩; have HN3 := Aside0.mk ((hb.block _ (lt_of HN.out)).trans HN.out); have HO3 := Aside0.mk ((hb.block _ (lt_of HO1.out)).trans HO1.out); have HZ3 := Aside0.mk ((hb.block _ (lt_of HZ1.out)).trans HZ1.out); have HB3 := Aside0.mk (below_step HB1.out hb); clear hb; have k0 : w3.cell? ⟨wr.heap.size, 0, none⟩ = some (.int .i64 y.f0) := cell_of HN3.out 0; have k1 : w3.cell? ⟨wr.heap.size, 1, none⟩ = some (.int .i64 y.f1) := cell_of HN3.out 1; have k2 : w3.cell? ⟨wr.heap.size, 2, none⟩ = some (.string y.f2) := cell_of HN3.out 2; have k3 : w3.frozen? ⟨w.heap.size + 1, 0, none⟩ = false := frozen_of HO3.out 0; have k4 : w3.frozen? ⟨w.heap.size + 1, 1, none⟩ = false := frozen_of HO3.out 1; have k5 : w3.frozen? ⟨w.heap.size + 1, 2, none⟩ = false := frozen_of HO3.out 2; have k6 : w3.cell? ⟨w.heap.size + 1, 0, none⟩ = some (.int .i64 (zP).f0) := cell_of HO3.out 0; have k7 : w3.cell? ⟨w.heap.size + 1, 1, none⟩ = some (.int .i64 (zP).f1) := cell_of HO3.out 1; have k8 : w3.cell? ⟨w.heap.size + 1, 2, none⟩ = some (.string (zP).f2) := cell_of HO3.out 2))
          go_roundg (xs.length - (k + 1))
          case measure => have := HM.out; omega
          case rel => exact ⟨k + 1, some y, rfl, by go_num, hlt, ⟨Nat.le_refl _⟩, ⟨by rw [HFS.out, ← HA.out]; exact HS.out.symm⟩, ⟨setCell_heap (setCell_heap (setCell_heap HO3.out _) _) _⟩, ⟨(Below.heap_setCell _ _ _ _ (show w.heap.size ≠ w.heap.size + 1 by omega)).trans ((Below.heap_setCell _ _ _ _ (show w.heap.size ≠ w.heap.size + 1 by omega)).trans ((Below.heap_setCell _ _ _ _ (show w.heap.size ≠ w.heap.size + 1 by omega)).trans HZ3.out))⟩, ⟨((HB3.out.setCell (p := ⟨w.heap.size + 1, 0, none⟩) (Nat.le_succ _) _).setCell (p := ⟨w.heap.size + 1, 1, none⟩) (Nat.le_succ _) _).setCell (p := ⟨w.heap.size + 1, 2, none⟩) (Nat.le_succ _) _⟩⟩
        | false =>
          have HPq := Aside0.mk (fun W h => by have := HPp.out W y HMem.out h; rwa [hq] at this)
          have HS := Aside0.mk (show fstep p none y = none by unfold fstep lstep; simp [hq])
          clear HPp hq
          go_wp2_with (first | (go_at_fn g; refine (HPq.out _ HB1.out).mono ?_; rintro e w3 ⟨rfl, hb⟩; have HN3 := Aside0.mk ((hb.block _ (lt_of HN.out)).trans HN.out); have HO3 := Aside0.mk ((hb.block _ (lt_of HO1.out)).trans HO1.out); have HZ3 := Aside0.mk ((hb.block _ (lt_of HZ1.out)).trans HZ1.out); have HB3 := Aside0.mk (below_step HB1.out hb); clear hb; have k0 : w3.cell? ⟨wr.heap.size, 0, none⟩ = some (.int .i64 y.f0) := cell_of HN3.out 0; have k1 : w3.cell? ⟨wr.heap.size, 1, none⟩ = some (.int .i64 y.f1) := cell_of HN3.out 1; have k2 : w3.cell? ⟨wr.heap.size, 2, none⟩ = some (.string y.f2) := cell_of HN3.out 2; have k3 : w3.frozen? ⟨w.heap.size + 1, 0, none⟩ = false := frozen_of HO3.out 0; have k4 : w3.frozen? ⟨w.heap.size + 1, 1, none⟩ = false := frozen_of HO3.out 1; have k5 : w3.frozen? ⟨w.heap.size + 1, 2, none⟩ = false := frozen_of HO3.out 2; have k6 : w3.cell? ⟨w.heap.size + 1, 0, none⟩ = some (.int .i64 (zP).f0) := cell_of HO3.out 0; have k7 : w3.cell? ⟨w.heap.size + 1, 1, none⟩ = some (.int .i64 (zP).f1) := cell_of HO3.out 1; have k8 : w3.cell? ⟨w.heap.size + 1, 2, none⟩ = some (.string (zP).f2) := cell_of HO3.out 2))
          go_roundg (xs.length - (k + 1))
          case measure => have := HM.out; omega
          case rel => exact ⟨k + 1, none, rfl, by go_num, hlt, ⟨Nat.le_refl _⟩, ⟨by rw [HFS.out, ← HA.out]; exact HS.out.symm⟩, ⟨HO3.out⟩, ⟨HZ3.out⟩, ⟨HB3.out⟩⟩
      | some q =>
        subst hacc
        have r0 : ∀ W : World, W.heap[w.heap.size + 1]? = some (pO q) → W.cell? ⟨w.heap.size + 1, 0, none⟩ = some (.int .i64 q.f0) ∧ W.cell? ⟨w.heap.size + 1, 1, none⟩ = some (.int .i64 q.f1) ∧ W.cell? ⟨w.heap.size + 1, 2, none⟩ = some (.string q.f2) := fun W h => ⟨cell_of h 0, cell_of h 1, cell_of h 2⟩
        obtain ⟨q0, q1, q2⟩ := r0 _ HO1.out
        unfold pO at q0 q1 q2
        clear r0
        by_cases hc : ltP y q
        · have hcz : cmpP y q < 0 := (cmpP_lt y q).2 hc
          cases hq : p y with
          | true =>
            have HPq := Aside0.mk (fun W h => by have := HPp.out W y HMem.out h; rwa [hq] at this)
            have HS := Aside0.mk (show fstep p (some q) y = some y by unfold fstep lstep; simp [hq, hc])
            clear HPp hq hc
            go_wp2_with (first | (go_at_call 64; refine (before_any y q _).mono ?_; rintro e w2 ⟨rfl, hb⟩; have HN2 := Aside0.mk ((hb.block _ (lt_of HN.out)).trans HN.out); have HO2 := Aside0.mk ((hb.block _ (lt_of HO1.out)).trans HO1.out); have HZ2 := Aside0.mk ((hb.block _ (lt_of HZ1.out)).trans HZ1.out); have HB2 := Aside0.mk (below_step HB1.out hb); clear hb; have k0 : w2.cell? ⟨wr.heap.size, 0, none⟩ = some (.int .i64 y.f0) := cell_of HN2.out 0; have k1 : w2.cell? ⟨wr.heap.size, 1, none⟩ = some (.int .i64 y.f1) := cell_of HN2.out 1; have k2 : w2.cell? ⟨wr.heap.size, 2, none⟩ = some (.string y.f2) := cell_of HN2.out 2; have k3 : w2.frozen? ⟨w.heap.size + 1, 0, none⟩ = false := frozen_of HO2.out 0; have k4 : w2.frozen? ⟨w.heap.size + 1, 1, none⟩ = false := frozen_of HO2.out 1; have k5 : w2.frozen? ⟨w.heap.size + 1, 2, none⟩ = false := frozen_of HO2.out 2; have k6 : w2.cell? ⟨w.heap.size + 1, 0, none⟩ = some (.int .i64 q.f0) := cell_of HO2.out 0; have k7 : w2.cell? ⟨w.heap.size + 1, 1, none⟩ = some (.int .i64 q.f1) := cell_of HO2.out 1; have k8 : w2.cell? ⟨w.heap.size + 1, 2, none⟩ = some (.string q.f2) := cell_of HO2.out 2) | (go_at_fn g; refine (HPq.out _ HB2.out).mono ?_; rintro e w3 ⟨rfl, hb⟩; have HN3 := Aside0.mk ((hb.block _ (lt_of HN2.out)).trans HN2.out); have HO3 := Aside0.mk ((hb.block _ (lt_of HO2.out)).trans HO2.out); have HZ3 := Aside0.mk ((hb.block _ (lt_of HZ2.out)).trans HZ2.out); have HB3 := Aside0.mk (below_step HB2.out hb); clear hb; have k0 : w3.cell? ⟨wr.heap.size, 0, none⟩ = some (.int .i64 y.f0) := cell_of HN3.out 0; have k1 : w3.cell? ⟨wr.heap.size, 1, none⟩ = some (.int .i64 y.f1) := cell_of HN3.out 1; have k2 : w3.cell? ⟨wr.heap.size, 2, none⟩ = some (.string y.f2) := cell_of HN3.out 2; have k3 : w3.frozen? ⟨w.heap.size + 1, 0, none⟩ = false := frozen_of HO3.out 0; have k4 : w3.frozen? ⟨w.heap.size + 1, 1, none⟩ = false := frozen_of HO3.out 1; have k5 : w3.frozen? ⟨w.heap.size + 1, 2, none⟩ = false := frozen_of HO3.out 2; have k6 : w3.cell? ⟨w.heap.size + 1, 0, none⟩ = some (.int .i64 q.f0) := cell_of HO3.out 0; have k7 : w3.cell? ⟨w.heap.size + 1, 1, none⟩ = some (.int .i64 q.f1) := cell_of HO3.out 1; have k8 : w3.cell? ⟨w.heap.size + 1, 2, none⟩ = some (.string q.f2) := cell_of HO3.out 2))
            go_roundg (xs.length - (k + 1))
            case measure => have := HM.out; omega
            case rel => exact ⟨k + 1, some y, rfl, by go_num, hlt, ⟨Nat.le_refl _⟩, ⟨by rw [HFS.out, ← HA.out]; exact HS.out.symm⟩, ⟨setCell_heap (setCell_heap (setCell_heap HO3.out _) _) _⟩, ⟨(Below.heap_setCell _ _ _ _ (show w.heap.size ≠ w.heap.size + 1 by omega)).trans ((Below.heap_setCell _ _ _ _ (show w.heap.size ≠ w.heap.size + 1 by omega)).trans ((Below.heap_setCell _ _ _ _ (show w.heap.size ≠ w.heap.size + 1 by omega)).trans HZ3.out))⟩, ⟨((HB3.out.setCell (p := ⟨w.heap.size + 1, 0, none⟩) (Nat.le_succ _) _).setCell (p := ⟨w.heap.size + 1, 1, none⟩) (Nat.le_succ _) _).setCell (p := ⟨w.heap.size + 1, 2, none⟩) (Nat.le_succ _) _⟩⟩
          | false =>
            have HPq := Aside0.mk (fun W h => by have := HPp.out W y HMem.out h; rwa [hq] at this)
            have HS := Aside0.mk (show fstep p (some q) y = some q by unfold fstep lstep; simp [hq, hc])
            clear HPp hq hc
            go_wp2_with (first | (go_at_call 64; refine (before_any y q _).mono ?_; rintro e w2 ⟨rfl, hb⟩; have HN2 := Aside0.mk ((hb.block _ (lt_of HN.out)).trans HN.out); have HO2 := Aside0.mk ((hb.block _ (lt_of HO1.out)).trans HO1.out); have HZ2 := Aside0.mk ((hb.block _ (lt_of HZ1.out)).trans HZ1.out); have HB2 := Aside0.mk (below_step HB1.out hb); clear hb; have k0 : w2.cell? ⟨wr.heap.size, 0, none⟩ = some (.int .i64 y.f0) := cell_of HN2.out 0; have k1 : w2.cell? ⟨wr.heap.size, 1, none⟩ = some (.int .i64 y.f1) := cell_of HN2.out 1; have k2 : w2.cell? ⟨wr.heap.size, 2, none⟩ = some (.string y.f2) := cell_of HN2.out 2; have k3 : w2.frozen? ⟨w.heap.size + 1, 0, none⟩ = false := frozen_of HO2.out 0; have k4 : w2.frozen? ⟨w.heap.size + 1, 1, none⟩ = false := frozen_of HO2.out 1; have k5 : w2.frozen? ⟨w.heap.size + 1, 2, none⟩ = false := frozen_of HO2.out 2; have k6 : w2.cell? ⟨w.heap.size + 1, 0, none⟩ = some (.int .i64 q.f0) := cell_of HO2.out 0; have k7 : w2.cell? ⟨w.heap.size + 1, 1, none⟩ = some (.int .i64 q.f1) := cell_of HO2.out 1; have k8 : w2.cell? ⟨w.heap.size + 1, 2, none⟩ = some (.string q.f2) := cell_of HO2.out 2) | (go_at_fn g; refine (HPq.out _ HB2.out).mono ?_; rintro e w3 ⟨rfl, hb⟩; have HN3 := Aside0.mk ((hb.block _ (lt_of HN2.out)).trans HN2.out); have HO3 := Aside0.mk ((hb.block _ (lt_of HO2.out)).trans HO2.out); have HZ3 := Aside0.mk ((hb.block _ (lt_of HZ2.out)).trans HZ2.out); have HB3 := Aside0.mk (below_step HB2.out hb); clear hb; have k0 : w3.cell? ⟨wr.heap.size, 0, none⟩ = some (.int .i64 y.f0) := cell_of HN3.out 0; have k1 : w3.cell? ⟨wr.heap.size, 1, none⟩ = some (.int .i64 y.f1) := cell_of HN3.out 1; have k2 : w3.cell? ⟨wr.heap.size, 2, none⟩ = some (.string y.f2) := cell_of HN3.out 2; have k3 : w3.frozen? ⟨w.heap.size + 1, 0, none⟩ = false := frozen_of HO3.out 0; have k4 : w3.frozen? ⟨w.heap.size + 1, 1, none⟩ = false := frozen_of HO3.out 1; have k5 : w3.frozen? ⟨w.heap.size + 1, 2, none⟩ = false := frozen_of HO3.out 2; have k6 : w3.cell? ⟨w.heap.size + 1, 0, none⟩ = some (.int .i64 q.f0) := cell_of HO3.out 0; have k7 : w3.cell? ⟨w.heap.size + 1, 1, none⟩ = some (.int .i64 q.f1) := cell_of HO3.out 1; have k8 : w3.cell? ⟨w.heap.size + 1, 2, none⟩ = some (.string q.f2) := cell_of HO3.out 2))
            go_roundg (xs.length - (k + 1))
            case measure => have := HM.out; omega
            case rel => exact ⟨k + 1, some q, rfl, by go_num, hlt, ⟨Nat.le_refl _⟩, ⟨by rw [HFS.out, ← HA.out]; exact HS.out.symm⟩, ⟨HO3.out⟩, ⟨HZ3.out⟩, ⟨HB3.out⟩⟩
        · have hcz : ¬ cmpP y q < 0 := fun h => hc ((cmpP_lt y q).1 h)
          have HS := Aside0.mk (show fstep p (some q) y = some q by unfold fstep lstep; simp [hc])
          clear HPp hc
          go_wp2_with (first | (go_at_call 64; refine (before_any y q _).mono ?_; rintro e w2 ⟨rfl, hb⟩; have HN2 := Aside0.mk ((hb.block _ (lt_of HN.out)).trans HN.out); have HO2 := Aside0.mk ((hb.block _ (lt_of HO1.out)).trans HO1.out); have HZ2 := Aside0.mk ((hb.block _ (lt_of HZ1.out)).trans HZ1.out); have HB2 := Aside0.mk (below_step HB1.out hb); clear hb; have k0 : w2.cell? ⟨wr.heap.size, 0, none⟩ = some (.int .i64 y.f0) := cell_of HN2.out 0; have k1 : w2.cell? ⟨wr.heap.size, 1, none⟩ = some (.int .i64 y.f1) := cell_of HN2.out 1; have k2 : w2.cell? ⟨wr.heap.size, 2, none⟩ = some (.string y.f2) := cell_of HN2.out 2; have k3 : w2.frozen? ⟨w.heap.size + 1, 0, none⟩ = false := frozen_of HO2.out 0; have k4 : w2.frozen? ⟨w.heap.size + 1, 1, none⟩ = false := frozen_of HO2.out 1; have k5 : w2.frozen? ⟨w.heap.size + 1, 2, none⟩ = false := frozen_of HO2.out 2; have k6 : w2.cell? ⟨w.heap.size + 1, 0, none⟩ = some (.int .i64 q.f0) := cell_of HO2.out 0; have k7 : w2.cell? ⟨w.heap.size + 1, 1, none⟩ = some (.int .i64 q.f1) := cell_of HO2.out 1; have k8 : w2.cell? ⟨w.heap.size + 1, 2, none⟩ = some (.string q.f2) := cell_of HO2.out 2))
          go_roundg (xs.length - (k + 1))
          case measure => have := HM.out; omega
          case rel => exact ⟨k + 1, some q, rfl, by go_num, hlt, ⟨Nat.le_refl _⟩, ⟨by rw [HFS.out, ← HA.out]; exact HS.out.symm⟩, ⟨HO2.out⟩, ⟨HZ2.out⟩, ⟨HB2.out⟩⟩
    · obtain rfl : k = xs.length := by omega
      have hltz : ¬ (xs.length : Int) < (xs.length : Int) := by omega
      have hacc : acc = leastS (xs.filter p) := by rw [HA.out, List.take_length]; exact HFo.out
      have hz0 := lt_of HO.out
      have n1 : (w.heap.size + 1 = w.heap.size) = False := eq_false (by omega)
      have n2 : (w.heap.size = w.heap.size + 1) = False := eq_false (by omega)
      have m0 : wr.cell? ⟨w.heap.size + 1, 0, none⟩ = some (.int .i64 (acc.getD zP).f0) := cell_of HO.out 0
      have m1 : wr.cell? ⟨w.heap.size + 1, 1, none⟩ = some (.int .i64 (acc.getD zP).f1) := cell_of HO.out 1
      have m2 : wr.cell? ⟨w.heap.size + 1, 2, none⟩ = some (.string (acc.getD zP).f2) := cell_of HO.out 2
      have k3 : wr.frozen? ⟨w.heap.size, 0, none⟩ = false := frozen_of HZ.out 0
      have k4 : wr.frozen? ⟨w.heap.size, 1, none⟩ = false := frozen_of HZ.out 1
      have k5 : wr.frozen? ⟨w.heap.size, 2, none⟩ = false := frozen_of HZ.out 2
      have j0 : wr.cell? ⟨w.heap.size, 0, none⟩ = some (.int .i64 0) := cell_of HZ.out 0
      have j1 : wr.cell? ⟨w.heap.size, 1, none⟩ = some (.int .i64 0) := cell_of HZ.out 1
      have j2 : wr.cell? ⟨w.heap.size, 2, none⟩ = some (.string ⟨#[]⟩) := cell_of HZ.out 2
      go_wp2
      subst hacc
      refine bodyPost_ret (results_ct rfl _ _ w.heap.size 37 #[.int .i64 ((leastS (xs.filter p)).getD zP).f0, .int .i64 ((leastS (xs.filter p)).getD zP).f1, .string ((leastS (xs.filter p)).getD zP).f2] (0, 0) _ rfl (setCell_heap (setCell_heap (setCell_heap HZ.out _) _) _) Tryz.underlying37 rfl (by kernel_rfl)) rfl ?_
      exact ⟨rfl, ((HB.out.setCell (p := ⟨w.heap.size, 0, none⟩) (Nat.le_refl _) _).setCell (p := ⟨w.heap.size, 1, none⟩) (Nat.le_refl _) _).setCell (p := ⟨w.heap.size, 2, none⟩) (Nat.le_refl _) _⟩
def idxF {α : Type} (p : α → Bool) (xs : List α) : Int := if xs.any p then (xs.findIdx p : Int) else -1
theorem idxF_nonneg {α : Type} (p : α → Bool) (xs : List α) : decide (idxF p xs ≥ 0) = xs.any p := by
  unfold idxF; cases h : xs.any p <;> simp
theorem any_take {α : Type} {p : α → Bool} {xs : List α} {k : Nat} {y : α} (hy : xs[k]? = some y) (h : ∀ x ∈ xs.take k, p x = false) (hp : p y = true) : idxF p xs = (k : Int) := by
  have hk : k < xs.length := (List.getElem?_eq_some_iff.1 hy).1
  have hyk : xs[k] = y := (List.getElem?_eq_some_iff.1 hy).2
  unfold idxF
  rw [if_pos (List.any_eq_true.2 ⟨y, List.mem_of_getElem? hy, hp⟩)]
  congr 1
  rw [List.findIdx_eq hk]
  refine ⟨by rw [hyk]; exact hp, fun j hj => ?_⟩
  have := h xs[j] (List.mem_take_iff_getElem.2 ⟨j, by omega, rfl⟩)
  simpa using this
theorem any_none {α : Type} {p : α → Bool} {xs : List α} (h : ∀ x ∈ xs.take xs.length, p x = false) : idxF p xs = -1 := by
  unfold idxF
  rw [if_neg]
  rw [List.any_eq_true]
  rintro ⟨x, hx, hp⟩
  rw [h x (by simpa using hx)] at hp
  cases hp
theorem take_step {α : Type} {p : α → Bool} {xs : List α} {k : Nat} {y : α} (hy : xs[k]? = some y) (h : ∀ x ∈ xs.take k, p x = false) (hp : p y = false) : ∀ x ∈ xs.take (k + 1), p x = false := by
  intro x hx
  rw [List.take_add_one, hy] at hx
  rcases List.mem_append.1 hx with h1 | h1
  · exact h x h1
  · simp at h1; subst h1; exact hp
def sv (s : S46) : Value := .agg #[.int .i64 s.f0, .int .i64 s.f1, .string s.f2.f0, .string s.f2.f1, .bool s.f2.f2]
set_option maxHeartbeats 4000000 in
set_option maxRecDepth 100000 in
theorem idxf_span (p : S46 → Bool) (g : Nat) (lb : Array Value) (eg : ∀ args w, (callFunc g args).run Tryz.prog w = .ok (.enter g args) w) (A : Option Addr) (xs : List S46) (c : Nat) (w : World) (hC : Kd.C k46 w A xs.length xs)
    (hp : ∀ (W : World) (x : S46), x ∈ xs → Below w.heap.size w W → Calls Tryz.prog g (#[sv x] ++ lb) W fun e w' => e = .returned (.bool (p x)) ∧ Below W.heap.size W w') :
    Calls Tryz.prog 60 #[.slice A xs.length c, .func (.func g) #[] lb] w fun e w' => e = .returned (.int .i64 (idxF p xs)) ∧ Below w.heap.size w w' := by
  have HC := Aside0.mk hC
  have hmax : xs.length ≤ 9223372036854775807 := hC.2.1
  clear hC
  go_enter Tryz.func60, Tryz.ntmps60
  go_wp2
  go_loopg [5, 8] xs.length (fun gg _ s8 wr => ∃ kk : Nat, s8 = .int .i64 kk ∧ Aside0 (kk ≤ xs.length) ∧ Aside0 (xs.length - kk ≤ gg) ∧ Aside0 (Below w.heap.size w wr) ∧ Aside0 (∀ x ∈ xs.take kk, p x = false))
  case atStart => exact ⟨0, rfl, ⟨Nat.zero_le _⟩, ⟨by omega⟩, ⟨Below.refl _ w⟩, ⟨fun x hx => by simp at hx⟩⟩
  case round =>
    obtain ⟨kk, rfl, HK, HM, HB, HN⟩ := hrel
    have hkk := HK.out
    by_cases hlt : kk < xs.length
    · have hltz : (kk : Int) < (xs.length : Int) := by omega
      obtain ⟨ad, e, hx0, hx1, hx2, hx3, hx4⟩ := at_T46 HC.out (kk : Int) (by omega) hltz
      subst e
      obtain ⟨y, hy⟩ := ex_get hlt
      rw [rd46 hy] at hx0 hx1 hx2 hx3 hx4
      simp only [Int.toNat_natCast] at hx0 hx1 hx2 hx3 hx4
      replace hx0 := (HB.out.cell (World.block_lt_of_cell? w _ hx0)).trans hx0
      replace hx1 := (HB.out.cell (World.block_lt_of_cell? w _ hx1)).trans hx1
      replace hx2 := (HB.out.cell (World.block_lt_of_cell? w _ hx2)).trans hx2
      replace hx3 := (HB.out.cell (World.block_lt_of_cell? w _ hx3)).trans hx3
      replace hx4 := (HB.out.cell (World.block_lt_of_cell? w _ hx4)).trans hx4
      have HY := Aside0.mk hy
      have hcall := hp wr y (List.mem_of_getElem? hy) HB.out
      unfold sv at hcall
      clear hy hp
      cases hq : p y with
      | true =>
        rw [hq] at hcall
        go_wp2_with (go_at_fn g; refine hcall.mono ?_; rintro e w' ⟨rfl, hb'⟩)
        go_ret
        exact ⟨by rw [any_take HY.out HN.out hq]; rfl, below_step HB.out hb'⟩
      | false =>
        rw [hq] at hcall
        go_wp2_with (go_at_fn g; refine hcall.mono ?_; rintro e w' ⟨rfl, hb'⟩)
        go_roundg (xs.length - (kk + 1))
        case measure => have := HM.out; omega
        case rel => exact ⟨kk + 1, by go_num, ⟨by omega⟩, ⟨Nat.le_refl _⟩, ⟨below_step HB.out hb'⟩, ⟨take_step HY.out HN.out hq⟩⟩
    · obtain rfl : kk = xs.length := by omega
      have hltz : ¬ (xs.length : Int) < (xs.length : Int) := by omega
      go_wp2
      go_ret
      exact ⟨by rw [any_none HN.out]; rfl, HB.out⟩
set_option maxHeartbeats 4000000 in
set_option maxRecDepth 100000 in
theorem idxf_point (p : S37 → Bool) (g : Nat) (lb : Array Value) (eg : ∀ args w, (callFunc g args).run Tryz.prog w = .ok (.enter g args) w) (A : Option Addr) (xs : List S37) (c : Nat) (w : World) (hC : Kd.C k37 w A xs.length xs)
    (hp : ∀ (W : World) (x : S37), x ∈ xs → Below w.heap.size w W → Calls Tryz.prog g (#[pv x] ++ lb) W fun e w' => e = .returned (.bool (p x)) ∧ Below W.heap.size W w') :
    Calls Tryz.prog 59 #[.slice A xs.length c, .func (.func g) #[] lb] w fun e w' => e = .returned (.int .i64 (idxF p xs)) ∧ Below w.heap.size w w' := by
  have HC := Aside0.mk hC
  have hmax : xs.length ≤ 9223372036854775807 := hC.2.1
  clear hC
  go_enter Tryz.func59, Tryz.ntmps59
  go_wp2
  go_loopg [5, 8] xs.length (fun gg _ s8 wr => ∃ kk : Nat, s8 = .int .i64 kk ∧ Aside0 (kk ≤ xs.length) ∧ Aside0 (xs.length - kk ≤ gg) ∧ Aside0 (Below w.heap.size w wr) ∧ Aside0 (∀ x ∈ xs.take kk, p x = false))
  case atStart => exact ⟨0, rfl, ⟨Nat.zero_le _⟩, ⟨by omega⟩, ⟨Below.refl _ w⟩, ⟨fun x hx => by simp at hx⟩⟩
  case round =>
    obtain ⟨kk, rfl, HK, HM, HB, HN⟩ := hrel
    have hkk := HK.out
    by_cases hlt : kk < xs.length
    · have hltz : (kk : Int) < (xs.length : Int) := by omega
      obtain ⟨ad, e, hx0, hx1, hx2⟩ := at_T37 HC.out (kk : Int) (by omega) hltz
      subst e
      obtain ⟨y, hy⟩ := ex_get hlt
      rw [rd37 hy] at hx0 hx1 hx2
      simp only [Int.toNat_natCast] at hx0 hx1 hx2
      replace hx0 := (HB.out.cell (World.block_lt_of_cell? w _ hx0)).trans hx0
      replace hx1 := (HB.out.cell (World.block_lt_of_cell? w _ hx1)).trans hx1
      replace hx2 := (HB.out.cell (World.block_lt_of_cell? w _ hx2)).trans hx2
      have HY := Aside0.mk hy
      have hcall := hp wr y (List.mem_of_getElem? hy) HB.out
      unfold pv at hcall
      clear hy hp
      cases hq : p y with
      | true =>
        rw [hq] at hcall
        go_wp2_with (go_at_fn g; refine hcall.mono ?_; rintro e w' ⟨rfl, hb'⟩)
        go_ret
        exact ⟨by rw [any_take HY.out HN.out hq]; rfl, below_step HB.out hb'⟩
      | false =>
        rw [hq] at hcall
        go_wp2_with (go_at_fn g; refine hcall.mono ?_; rintro e w' ⟨rfl, hb'⟩)
        go_roundg (xs.length - (kk + 1))
        case measure => have := HM.out; omega
        case rel => exact ⟨kk + 1, by go_num, ⟨by omega⟩, ⟨Nat.le_refl _⟩, ⟨below_step HB.out hb'⟩, ⟨take_step HY.out HN.out hq⟩⟩
    · obtain rfl : kk = xs.length := by omega
      have hltz : ¬ (xs.length : Int) < (xs.length : Int) := by omega
      go_wp2
      go_ret
      exact ⟨by rw [any_none HN.out]; rfl, HB.out⟩
theorem contf_span (p : S46 → Bool) (g : Nat) (lb : Array Value) (eg : ∀ args w, (callFunc g args).run Tryz.prog w = .ok (.enter g args) w) (A : Option Addr) (xs : List S46) (c : Nat) (w : World) (hC : Kd.C k46 w A xs.length xs)
    (hp : ∀ (W : World) (x : S46), x ∈ xs → Below w.heap.size w W → Calls Tryz.prog g (#[sv x] ++ lb) W fun e w' => e = .returned (.bool (p x)) ∧ Below W.heap.size W w') :
    Calls Tryz.prog 27 #[.slice A xs.length c, .func (.func g) #[] lb] w fun e w' => e = .returned (.bool (xs.any p)) ∧ Below w.heap.size w w' := by
  have hi := idxf_span p g lb eg A xs c w hC hp
  clear hp hC
  go_enter Tryz.func27, Tryz.ntmps27
  go_wp2_with (go_at_call 60; refine hi.mono ?_; rintro e w' ⟨rfl, hb⟩)
  go_ret
  exact ⟨by rw [← idxF_nonneg]; rfl, hb⟩
theorem chas_any (r : S44) (key : ByteArray) (w : World) : Calls Tryz.prog 36 #[.agg #[.string r.f0, .string r.f1, .bool r.f2], .string key] w fun e w' => e = .returned (.bool (hasB r key)) ∧ Below w.heap.size w w' :=
  code_Has.calls _ _ _ _ _ w (chas_eq r key)
theorem contains_any (L : List S37) (A : Option Addr) (c : Nat) (p : S37) (w : World) (hC : Kd.C k37 w A L.length L) (hc : L.length ≤ c) (hl : L.length < 4611686018427387904) :
    Calls Tryz.prog 34 #[.slice A L.length c, pv p] w fun e w' => e = .returned (.bool (L.any (eqP p))) ∧ Below w.heap.size w w' := by
  obtain ⟨k, hk⟩ := (contains_ev L p hl).ex
  exact api_Point_34.calls k A c L _ _ _ _ w hC hc hk
set_option maxHeartbeats 4000000 in
theorem reads1_any (s : S46) (p : S37) (b : Nat) (w : World) (hb : w.heap[b]? = some (pO p)) :
    Calls Tryz.prog 35 (#[sv s] ++ #[.pointer (some ⟨b, 0, none⟩)]) w fun e w' => e = .returned (.bool (spanB p s)) ∧ Below w.heap.size w w' := by
  have h0 : w.cell? ⟨b, 0, none⟩ = some (.int .i64 p.f0) := cell_of hb 0
  have h1 : w.cell? ⟨b, 1, none⟩ = some (.int .i64 p.f1) := cell_of hb 1
  have h2 : w.cell? ⟨b, 2, none⟩ = some (.string p.f2) := cell_of hb 2
  have hlt := lt_of hb
  have n1 : (b = w.heap.size) = False := eq_false (by omega)
  clear hb
  unfold sv
  by_cases e0 : s.f0 = p.f0
  · by_cases e1 : s.f1 = p.f1
    · have hh := fun W => chas_any s.f2 p.f2 W
      have hs : spanB p s = hasB s.f2 p.f2 := by unfold spanB; simp [e0, e1]
      rw [hs]
      go_enter Tryz.func35, Tryz.ntmps35
      go_wp2_with (go_at_call 36; refine (hh _).mono ?_; rintro e w' ⟨rfl, hB⟩)
      go_ret
      exact ⟨rfl, below_step (below_alloc (Below.refl _ _) _) hB⟩
    · have hs : spanB p s = false := by unfold spanB; simp [e0, e1]
      have e1b : (s.f1 == p.f1) = false := by simpa using e1
      rw [hs]
      go_enter Tryz.func35, Tryz.ntmps35
      go_wp2
      go_ret
      exact ⟨rfl, below_alloc (Below.refl _ _) _⟩
  · have hs : spanB p s = false := by unfold spanB; simp [e0]
    have e0b : (s.f0 == p.f0) = false := by simpa using e0
    rw [hs]
    go_enter Tryz.func35, Tryz.ntmps35
    go_wp2
    go_ret
    exact ⟨rfl, below_alloc (Below.refl _ _) _⟩
theorem enter35 : ∀ args w, (callFunc 35 args).run Tryz.prog w = .ok (.enter 35 args) w := fun args w => by simp [go_sem]
set_option maxHeartbeats 4000000 in
theorem reads_any (ps : List S37) (ss : List S46) (A0 A1 A2 : Option Addr) (n2 c0 c1 c2 : Nat) (p : S37) (w : World) (h0 : Kd.C k37 w A0 ps.length ps) (hc0 : ps.length ≤ c0) (h1 : Kd.C k46 w A1 ss.length ss) (hc1 : ss.length ≤ c1) (hl : ps.length < 4611686018427387904) :
    Calls Tryz.prog 16 #[.agg #[.slice A0 ps.length c0, .slice A1 ss.length c1, .slice A2 n2 c2], pv p] w fun e w' => e = .returned (.bool (readsS ps ss p)) ∧ Below w.heap.size w w' := by
  generalize hW : (w.alloc (.cells #[.slice A0 ps.length c0, .slice A1 ss.length c1, .slice A2 n2 c2] 25)).alloc (pO p) = W
  have hB : Below w.heap.size w W := by rw [← hW]; exact below_alloc (below_alloc (Below.refl _ _) _) _
  have g0 : W.heap[w.heap.size]? = some (.cells #[.slice A0 ps.length c0, .slice A1 ss.length c1, .slice A2 n2 c2] 25) := by rw [← hW]; exact heap_old (heap_new _ _)
  have g1 : W.heap[w.heap.size + 1]? = some (pO p) := by rw [← hW]; have := heap_new (w.alloc (.cells #[.slice A0 ps.length c0, .slice A1 ss.length c1, .slice A2 n2 c2] 25)) (pO p); rw [size_new] at this; exact this
  have hcon := contains_any ps A0 c0 p W (Kd.C_below h0 hB) hc0 hl
  have HW := Aside0.mk hW
  have HB := Aside0.mk hB
  have HC1 := Aside0.mk h1
  have HG0 := Aside0.mk g0
  have HG1 := Aside0.mk g1
  unfold pO at HW
  clear hW hB h0 h1 g0 g1
  unfold pv at hcon ⊢
  cases hq : ps.any (eqP p) with
  | true =>
    rw [hq] at hcon
    have hs : readsS ps ss p = true := by unfold readsS; rw [hq, Bool.true_or]
    rw [hs]
    clear hq hs
    go_enter Tryz.func16, Tryz.ntmps16
    go_wp2_with (go_at_call 34; rw [HW.out]; refine hcon.mono ?_; rintro e w' ⟨rfl, hb⟩)
    go_ret
    exact ⟨rfl, below_step HB.out hb⟩
  | false =>
    rw [hq] at hcon
    have hs : readsS ps ss p = ss.any (spanB p) := by unfold readsS; rw [hq, Bool.false_or]
    rw [hs]
    clear hq hs
    go_enter Tryz.func16, Tryz.ntmps16
    go_wp2_with (first | (go_at_call 34; rw [HW.out]; refine hcon.mono ?_; rintro e w3 ⟨rfl, hb⟩; have hb3 := Aside0.mk hb; have j1 : w3.cell? ⟨w.heap.size, 1, none⟩ = some (.slice A1 ss.length c1) := cell_of ((hb.block _ (lt_of HG0.out)).trans HG0.out) 1; clear hb) | (go_at_call 27; refine (contf_span (spanB p) 35 #[.pointer (some ⟨w.heap.size + 1, 0, none⟩)] enter35 A1 ss c1 _ (Kd.C_below HC1.out (below_step HB.out hb3.out)) (fun V x _ hV => reads1_any x p _ V ((hV.block _ (Nat.lt_of_lt_of_le (lt_of HG1.out) hb3.out.size)).trans ((hb3.out.block _ (lt_of HG1.out)).trans HG1.out)))).mono ?_; rintro e w4 ⟨rfl, hb4⟩; have HB4 := Aside0.mk hb4; clear hb4))
    go_ret
    exact ⟨rfl, below_step (below_step HB.out hb3.out) HB4.out⟩
structure Lay (w wr : World) (f0 f1 : Array Value) (nn : Nat) (L : List S37) : Prop where
  x0 : wr.heap[w.heap.size]? = some (.cells f0 25)
  x1 : wr.heap[w.heap.size + 1]? = some (.cells f1 25)
  x2 : wr.heap[w.heap.size + 1 + 1]? = some (pO zP)
  x3 : PM wr (w.heap.size + 1 + 1 + 1) nn L
  x4 : wr.heap[w.heap.size + 1 + 1 + 1 + 1]? = some (.cells #[.map (some (w.heap.size + 1 + 1 + 1))] 59)
  bel : Below w.heap.size w wr
theorem Lay.below {w wr W : World} {f0 f1 : Array Value} {nn : Nat} {L : List S37} (h : Lay w wr f0 f1 nn L) (hb : Below wr.heap.size wr W) : Lay w W f0 f1 nn L :=
  ⟨(hb.block _ (lt_of h.x0)).trans h.x0, (hb.block _ (lt_of h.x1)).trans h.x1, (hb.block _ (lt_of h.x2)).trans h.x2, h.x3.below hb, (hb.block _ (lt_of h.x4)).trans h.x4, below_step h.bel hb⟩
theorem Lay.put {w wr : World} {f0 f1 : Array Value} {nn : Nat} {L : List S37} (h : Lay w wr f0 f1 nn L) (hn : nn < maxLen) {x : S37} (hx : wfP x) :
    ∃ w', (Instr.mapUpdate 59 (.map (some (w.heap.size + 1 + 1 + 1))) (pv x) (.agg #[])).run Tryz.prog wr = .ok () w' ∧ Lay w w' f0 f1 (nn + 1) (L ++ [x]) := by
  obtain ⟨w', hrun, hP, hg⟩ := h.x3.put hn hx
  have hz := lt_of h.x4
  have hk : ∀ j, j < wr.heap.size → j ≠ w.heap.size + 1 + 1 + 1 → w'.heap[j]? = wr.heap[j]? := fun j hj hne => hg.block j hj (fun e => hne (Option.some.inj e))
  exact ⟨w', hrun, (hk _ (by omega) (by omega)).trans h.x0, (hk _ (by omega) (by omega)).trans h.x1, (hk _ (by omega) (by omega)).trans h.x2, hP, (hk _ (by omega) (by omega)).trans h.x4,
    h.bel.grown hg h.bel.size (fun k hk => by injection hk with hk; omega)⟩
theorem lay_new (w : World) (f0 f1 : Array Value) : Lay w (((((w.alloc (.cells f0 25)).alloc (.cells f1 25)).alloc (pO zP)).alloc (.map #[] 0)).alloc (.cells #[.map (some (w.heap.size + 1 + 1 + 1))] 59)) f0 f1 0 [] := by
  have s1 := size_new w (.cells f0 25)
  have s2 := size_new (w.alloc (.cells f0 25)) (.cells f1 25)
  have s3 := size_new ((w.alloc (.cells f0 25)).alloc (.cells f1 25)) (pO zP)
  have s4 := size_new (((w.alloc (.cells f0 25)).alloc (.cells f1 25)).alloc (pO zP)) (.map #[] 0)
  have h1 := heap_new (w.alloc (.cells f0 25)) (.cells f1 25)
  have h2 := heap_new ((w.alloc (.cells f0 25)).alloc (.cells f1 25)) (pO zP)
  have h3 := PM.new (((w.alloc (.cells f0 25)).alloc (.cells f1 25)).alloc (pO zP))
  have h4 := heap_new ((((w.alloc (.cells f0 25)).alloc (.cells f1 25)).alloc (pO zP)).alloc (.map #[] 0)) (.cells #[.map (some (w.heap.size + 1 + 1 + 1))] 59)
  rw [s1] at h1 s2
  rw [s2] at h2 s3
  rw [s3] at h3 s4
  rw [s4] at h4
  exact ⟨heap_old (heap_old (heap_old (heap_old (heap_new _ _)))), heap_old (heap_old (heap_old h1)), heap_old (heap_old h2), h3.below (below_alloc (Below.refl _ _) _), h4, below_alloc (below_alloc (below_alloc (below_alloc (below_alloc (Below.refl _ _) _) _) _) _) _⟩
theorem C_nil37 (w : World) : Kd.C k37 w none ([] : List S37).length [] := (Kd.R_reads' (Kd.R_nil k37 37 w 0 (fun _ => True))).2.2
set_option maxHeartbeats 4000000 in
theorem clash1_any (ps : List S37) (ss : List S46) (p : S37) (mv m nn sb : Nat) (A1 : Option Addr) (c1 : Nat) (w : World) (hp : wfP p) (hM : PM w m nn ps) (hv : w.heap[mv]? = some (.cells #[.map (some m)] 59)) (hs : w.heap[sb]? = some (.cells #[.slice none 0 0, .slice A1 ss.length c1, .slice none 0 0] 25)) (h1 : Kd.C k46 w A1 ss.length ss) (hc1 : ss.length ≤ c1) :
    Calls Tryz.prog 38 (#[pv p] ++ #[.pointer (some ⟨mv, 0, none⟩), .pointer (some ⟨sb, 0, none⟩)]) w fun e w' => e = .returned (.bool (readsS ps ss p)) ∧ Below w.heap.size w w' := by
  have hlook := (hM.below (below_alloc (Below.refl _ _) (pO p))).look hp
  have v0 : w.cell? ⟨mv, 0, none⟩ = some (.map (some m)) := cell_of hv 0
  have s0 : w.cell? ⟨sb, 0, none⟩ = some (.slice none 0 0) := cell_of hs 0
  have s1 : w.cell? ⟨sb, 1, none⟩ = some (.slice A1 ss.length c1) := cell_of hs 1
  have s2 : w.cell? ⟨sb, 2, none⟩ = some (.slice none 0 0) := cell_of hs 2
  have l1 := lt_of hv
  have l2 := lt_of hs
  have n1 : (mv = w.heap.size) = False := eq_false (by omega)
  have n2 : (sb = w.heap.size) = False := eq_false (by omega)
  have n3 : (sb = w.heap.size + 1) = False := eq_false (by omega)
  have n4 : (w.heap.size = w.heap.size + 1) = False := eq_false (by omega)
  have HC1 := Aside0.mk h1
  clear hM hv hs h1
  unfold pv pO at hlook
  unfold pv
  cases hq : ps.any (eqP p) with
  | true =>
    rw [hq] at hlook
    have hr : readsS ps ss p = true := by unfold readsS; rw [hq, Bool.true_or]
    rw [hr]
    clear hq hr
    go_enter Tryz.func38, Tryz.ntmps38
    go_wp2
    go_ret
    exact ⟨rfl, below_alloc (below_alloc (Below.refl _ _) _) _⟩
  | false =>
    rw [hq] at hlook
    have hr : readsS ps ss p = readsS [] ss p := by unfold readsS; rw [hq]; rfl
    rw [hr]
    clear hq hr
    go_enter Tryz.func38, Tryz.ntmps38
    go_wp2_with (go_at_call 16; refine (reads_any [] ss none A1 none 0 0 c1 0 p _ (C_nil37 _) (Nat.le_refl _) (Kd.C_below HC1.out (below_alloc (below_alloc (Below.refl _ _) _) _)) hc1 (by decide)).mono ?_; rintro e w3 ⟨rfl, hb⟩; have HB := Aside0.mk hb; clear hb)
    go_ret
    exact ⟨rfl, below_step (below_alloc (below_alloc (Below.refl _ _) _) _) HB.out⟩
theorem enter38 : ∀ args w, (callFunc 38 args).run Tryz.prog w = .ok (.enter 38 args) w := fun args w => by simp [go_sem]
set_option maxHeartbeats 8000000 in
set_option maxRecDepth 100000 in
theorem clash_any (ps : List S37) (ss : List S46) (ws : List S37) (A0 A1 A2 B0 B1 B2 : Option Addr) (n2 m0 m1 c0 c1 c2 d0 d1 d2 : Nat) (w : World) (h0 : Kd.C k37 w A0 ps.length ps) (hc0 : ps.length ≤ c0) (h1 : Kd.C k46 w A1 ss.length ss) (hc1 : ss.length ≤ c1) (h2 : Kd.C k37 w B2 ws.length ws) (hd2 : ws.length ≤ d2)
    (hl : ps.length < 4398046511104) (hwp : ∀ x ∈ ps, wfP x) (hww : ∀ x ∈ ws, wfP x) :
    Calls Tryz.prog 17 #[.agg #[.slice A0 ps.length c0, .slice A1 ss.length c1, .slice A2 n2 c2], .agg #[.slice B0 m0 d0, .slice B1 m1 d1, .slice B2 ws.length d2]] w fun e w' => e = .returned (.tuple #[pv ((leastS (ws.filter (readsS ps ss))).getD zP), .bool (leastS (ws.filter (readsS ps ss))).isSome]) ∧ Below w.heap.size w w' := by
  have hmm := @run_makeMap Tryz.prog
  have HC0 := Aside0.mk h0
  have HC1 := Aside0.mk h1
  have HC2 := Aside0.mk h2
  have HWp := Aside0.mk hwp
  have HWw := Aside0.mk hww
  clear h0 h1 h2 hwp hww
  go_enter Tryz.func17, Tryz.ntmps17
  go_wp2
  have HL0 := Aside0.mk (lay_new w #[.slice A0 ps.length c0, .slice A1 ss.length c1, .slice A2 n2 c2] #[.slice B0 m0 d0, .slice B1 m1 d1, .slice B2 ws.length d2])
  go_loopg [14] ps.length (fun gg s14 wr => ∃ k : Nat, s14 = .int .i64 k ∧ k ≤ ps.length ∧ Aside0 (ps.length - k ≤ gg) ∧ Aside0 (Lay w wr #[.slice A0 ps.length c0, .slice A1 ss.length c1, .slice A2 n2 c2] #[.slice B0 m0 d0, .slice B1 m1 d1, .slice B2 ws.length d2] k (ps.take k)))
  case atStart => exact ⟨0, rfl, Nat.zero_le _, ⟨by omega⟩, ⟨HL0.out⟩⟩
  case round =>
    clear HL0
    obtain ⟨k, rfl, hk, HM, HL⟩ := hrel
    by_cases hlt : k < ps.length
    · have hltz : (k : Int) < (ps.length : Int) := by omega
      obtain ⟨ad, ea, a0, a1, a2⟩ := at_T37 HC0.out (k : Int) (by omega) hltz
      subst ea
      obtain ⟨y, hy⟩ := ex_get hlt
      rw [rd37 hy] at a0 a1 a2
      simp only [Int.toNat_natCast] at a0 a1 a2
      replace a0 := (HL.out.bel.cell (World.block_lt_of_cell? _ _ a0)).trans a0
      replace a1 := (HL.out.bel.cell (World.block_lt_of_cell? _ _ a1)).trans a1
      replace a2 := (HL.out.bel.cell (World.block_lt_of_cell? _ _ a2)).trans a2
      obtain ⟨w3, hrun, hL3⟩ := (HL.out.below (below_alloc (Below.refl _ _) (pO y))).put (by unfold maxLen; omega) (HWp.out y (List.mem_of_getElem? hy))
      rw [← take_snoc hy] at hL3
      have HL3 := Aside0.mk hL3
      have x4 : wr.cell? ⟨w.heap.size + 1 + 1 + 1 + 1, 0, none⟩ = some (.map (some (w.heap.size + 1 + 1 + 1))) := cell_of HL.out.x4 0
      have hz := lt_of HL.out.x4
      have n1 : (w.heap.size + 1 + 1 + 1 + 1 = wr.heap.size) = False := eq_false (by omega)
      unfold pv pO at hrun
      clear hy hL3
      go_wp2
      go_roundg (ps.length - (k + 1))
      case measure => have := HM.out; omega
      case rel => exact ⟨k + 1, by go_num, hlt, ⟨Nat.le_refl _⟩, HL3⟩
    · obtain rfl : k = ps.length := by omega
      have hltz : ¬ (ps.length : Int) < (ps.length : Int) := by omega
      have hL := HL.out
      rw [List.take_length] at hL
      have HLz := Aside0.mk hL
      clear hL
      have x01 : wr.cell? ⟨w.heap.size, 1, none⟩ = some (.slice A1 ss.length c1) := cell_of HLz.out.x0 1
      have x12 : wr.cell? ⟨w.heap.size + 1, 2, none⟩ = some (.slice B2 ws.length d2) := cell_of HLz.out.x1 2
      have hz := lt_of HLz.out.x4
      have n1 : (w.heap.size + 1 = wr.heap.size) = False := eq_false (by omega)
      have HNs := Aside0.mk (heap_new wr (.cells #[.slice none 0 0, .slice A1 ss.length c1, .slice none 0 0] 25))
      have HLn := Aside0.mk (HLz.out.below (below_alloc (Below.refl _ _) (.cells #[.slice none 0 0, .slice A1 ss.length c1, .slice none 0 0] 25)))
      have HLe := Aside0.mk (least_any (readsS ps ss) 38 #[.pointer (some ⟨w.heap.size + 1 + 1 + 1 + 1, 0, none⟩), .pointer (some ⟨wr.heap.size, 0, none⟩)] enter38 B2 ws d2 (wr.alloc (.cells #[.slice none 0 0, .slice A1 ss.length c1, .slice none 0 0] 25)) (Kd.C_below HC2.out HLn.out.bel)
        (fun V x hx hV => clash1_any ps ss x _ _ _ _ A1 c1 V (HWw.out x hx) (HLn.out.below hV).x3 (HLn.out.below hV).x4 ((hV.block _ (lt_of HNs.out)).trans HNs.out) (Kd.C_below HC1.out (HLn.out.below hV).bel) hc1))
      have xn : (wr.alloc (.cells #[.slice none 0 0, .slice A1 ss.length c1, .slice none 0 0] 25)).cell? ⟨w.heap.size + 1, 2, none⟩ = some (.slice B2 ws.length d2) := cell_of HLn.out.x1 2
      go_wp2_with (go_at_call 37; refine HLe.out.mono ?_; rintro e w5 ⟨rfl, hb⟩; have HB5 := Aside0.mk hb; have HL5 := Aside0.mk (HLn.out.below hb); clear hb; have j0 : w5.cell? ⟨w.heap.size + 1 + 1, 0, none⟩ = some (.int .i64 0) := cell_of HL5.out.x2 0; have j1 : w5.cell? ⟨w.heap.size + 1 + 1, 1, none⟩ = some (.int .i64 0) := cell_of HL5.out.x2 1; have j2 : w5.cell? ⟨w.heap.size + 1 + 1, 2, none⟩ = some (.string ⟨#[]⟩) := cell_of HL5.out.x2 2; have k3 : w5.frozen? ⟨w.heap.size + 1 + 1, 0, none⟩ = false := frozen_of HL5.out.x2 0; have k4 : w5.frozen? ⟨w.heap.size + 1 + 1, 1, none⟩ = false := frozen_of HL5.out.x2 1; have k5 : w5.frozen? ⟨w.heap.size + 1 + 1, 2, none⟩ = false := frozen_of HL5.out.x2 2; unfold pv)
      refine bodyPost_ret (results_ct rfl _ _ (w.heap.size + 1 + 1) 37 #[.int .i64 ((leastS (ws.filter (readsS ps ss))).getD zP).f0, .int .i64 ((leastS (ws.filter (readsS ps ss))).getD zP).f1, .string ((leastS (ws.filter (readsS ps ss))).getD zP).f2] (0, 0) _ rfl (setCell_heap (setCell_heap (setCell_heap HL5.out.x2 _) _) _) Tryz.underlying37 rfl (by kernel_rfl)) rfl ?_
      exact ⟨rfl, ((HL5.out.bel.setCell (p := ⟨w.heap.size + 1 + 1, 0, none⟩) (by show w.heap.size ≤ w.heap.size + 1 + 1; omega) _).setCell (p := ⟨w.heap.size + 1 + 1, 1, none⟩) (by show w.heap.size ≤ w.heap.size + 1 + 1; omega) _).setCell (p := ⟨w.heap.size + 1 + 1, 2, none⟩) (by show w.heap.size ≤ w.heap.size + 1 + 1; omega) _⟩
end Go.Proofs.YtldlenjfpjihdaaGreat.PS
end
section
namespace Go.Proofs.YtldlenjfpjihdaaGreat.PS
open Go Go.RowKit Go.Proofs Go.Proofs.YtldlenjfpjihdaaGreatW.PrintWords Go.Proofs.YtldlenjfpjihdaaGreatW.PrintLast Go.Proofs.YtldlenjfpjihdaaGreatW.PrintMore
set_option linter.unusedVariables false
set_option linter.unusedSimpArgs false
def enc37 (x : S37) : List Value := [.int .i64 x.f0, .int .i64 x.f1, .string x.f2]
def RowP (w : World) (g : Nat) (xs : List S37) : Prop := ∀ (i : Nat) (x : S37), xs[i]? = some x → ∀ (j : Nat) (u : Value), (enc37 x)[j]? = some u → w.cell? ⟨g, i * 3 + j, none⟩ = some u ∧ w.frozen? ⟨g, i * 3 + j, none⟩ = false
theorem RowP.at0 {w : World} {g : Nat} {xs : List S37} (h : RowP w g xs) {i : Nat} {x : S37} (hi : xs[i]? = some x) : w.cell? ⟨g, i * 3, none⟩ = some (.int .i64 x.f0) ∧ w.cell? ⟨g, i * 3 + 1, none⟩ = some (.int .i64 x.f1) ∧ w.cell? ⟨g, i * 3 + 2, none⟩ = some (.string x.f2) ∧ w.frozen? ⟨g, i * 3, none⟩ = false ∧ w.frozen? ⟨g, i * 3 + 1, none⟩ = false ∧ w.frozen? ⟨g, i * 3 + 2, none⟩ = false :=
  ⟨(h i x hi 0 _ rfl).1, (h i x hi 1 _ rfl).1, (h i x hi 2 _ rfl).1, (h i x hi 0 _ rfl).2, (h i x hi 1 _ rfl).2, (h i x hi 2 _ rfl).2⟩
theorem RowP.same {w w' : World} {g : Nat} {xs : List S37} (h : RowP w g xs) (e : w'.heap[g]? = w.heap[g]?) : RowP w' g xs := by
  intro i x hi j u hu
  have := h i x hi j u hu
  simpa [World.cell?, World.frozen?, e] using this
theorem RowP.below {w w' : World} {g : Nat} {xs : List S37} (h : RowP w g xs) (hg : g < w.heap.size) (hb : Below w.heap.size w w') : RowP w' g xs := h.same (hb.block g hg)
theorem RowP.lt {w : World} {g : Nat} {xs : List S37} (h : RowP w g xs) (hn : 0 < xs.length) : g < w.heap.size := by
  have := (h 0 _ (List.getElem?_eq_getElem hn) 0 _ rfl).1
  exact World.block_lt_of_cell? w _ this
theorem RowP.take {w : World} {g : Nat} {xs : List S37} (h : RowP w g xs) (n : Nat) : RowP w g (xs.take n) := by
  intro i x hi
  refine h i x ?_
  rw [List.getElem?_take] at hi
  split at hi
  · exact hi
  · cases hi
theorem RowP.C {w : World} {g : Nat} {xs : List S37} (h : RowP w g xs) (hl : xs.length ≤ 9223372036854775807) : Kd.C k37 w (some ⟨g, 0, none⟩) xs.length xs := by
  refine ⟨rfl, hl, fun _ => ⟨_, rfl, fun j p hp => ⟨enc37 p, rfl, k37_mk w p, fun i u hu => ?_⟩⟩⟩
  have := (h j p hp i u hu).1
  rw [add_plain]
  exact this
theorem idxF_cases {α : Type} (p : α → Bool) (xs : List α) : (idxF p xs = -1 ∧ ∀ x ∈ xs, p x = false) ∨ ∃ k : Nat, k < xs.length ∧ idxF p xs = (k : Int) ∧ (∀ x ∈ xs.take k, p x = false) ∧ ∃ y, xs[k]? = some y ∧ p y = true := by
  unfold idxF
  cases h : xs.any p with
  | false =>
    left
    refine ⟨if_neg (by decide), fun x hx => ?_⟩
    have := List.any_eq_false.1 h x hx
    simpa using this
  | true =>
    right
    have hlt : xs.findIdx p < xs.length := List.findIdx_lt_length.2 (by simpa using h)
    refine ⟨xs.findIdx p, hlt, if_pos rfl, fun x hx => ?_, xs[xs.findIdx p], List.getElem?_eq_getElem hlt, List.findIdx_getElem⟩
    obtain ⟨j, hj, rfl⟩ := List.mem_take_iff_getElem.1 hx
    have := List.not_of_lt_findIdx (p := p) (xs := xs) (i := j) (by omega)
    simpa using this
structure KeptRowP (p : S37 → Bool) (xs L : List S37) (i j : Nat) : Prop where
  len : L.length = xs.length
  lt : i < j
  le : j ≤ xs.length
  low : L.take i = (xs.take j).filter fun x => !p x
  high : ∀ k, j ≤ k → L[k]? = xs[k]?
theorem KeptRowP.start {p : S37 → Bool} {xs : List S37} {k : Nat} {y : S37} (hk : k < xs.length) (h : ∀ x ∈ xs.take k, p x = false) (hy : xs[k]? = some y) (hp : p y = true) : KeptRowP p xs xs k (k + 1) := by
  refine ⟨rfl, Nat.lt_succ_self _, hk, ?_, fun _ _ => rfl⟩
  rw [List.take_add_one, hy, List.filter_append, List.filter_eq_self.2 (fun x hx => by rw [h x hx]; rfl)]
  simp [hp]
theorem KeptRowP.skip {p : S37 → Bool} {xs L : List S37} {i j : Nat} {y : S37} (h : KeptRowP p xs L i j) (hy : xs[j]? = some y) (hp : p y = true) : KeptRowP p xs L i (j + 1) := by
  have hj := (List.getElem?_eq_some_iff.1 hy).1
  refine ⟨h.len, Nat.lt_succ_of_lt h.lt, hj, ?_, fun k hk => h.high k (by omega)⟩
  rw [List.take_add_one, hy, List.filter_append, h.low]
  simp [hp]
theorem KeptRowP.keep {p : S37 → Bool} {xs L : List S37} {i j : Nat} {y : S37} (h : KeptRowP p xs L i j) (hy : xs[j]? = some y) (hp : p y = false) : KeptRowP p xs (L.set i y) (i + 1) (j + 1) := by
  have hj := (List.getElem?_eq_some_iff.1 hy).1
  have hlen := h.len
  have hlt := h.lt
  refine ⟨by rw [List.length_set]; exact h.len, by omega, hj, ?_, fun k hk => ?_⟩
  · rw [List.take_add_one, List.getElem?_set_self (by omega), List.take_set_of_le (Nat.le_refl _), h.low, List.take_add_one, hy, List.filter_append]
    simp [hp]
  · rw [List.getElem?_set_ne (by omega)]; exact h.high k (by omega)
theorem RowP.set {w : World} {g : Nat} {xs : List S37} (h : RowP w g xs) (i : Nat) (hi : i < xs.length) (y : S37) : RowP (w.setCells g (i * 3) (enc37 y)) g (xs.set i y) := by
  intro k x hk j u hu
  have hj : j < 3 := by have := (List.getElem?_eq_some_iff.1 hu).1; simpa [enc37] using this
  rw [World.frozen?_setCells]
  by_cases e : i = k
  · subst e
    rw [List.getElem?_set_self hi, Option.some.injEq] at hk
    subst hk
    have hin := World.cell?_setCells_in g (enc37 y) (i * 3) w (fun t ht => by
      have ht3 : t < 3 := by simpa [enc37] using ht
      have := (h i _ (List.getElem?_eq_getElem hi) t ((enc37 xs[i])[t]'(by simpa [enc37] using ht3)) (List.getElem?_eq_getElem _)).1
      rw [this]; rfl) j (by simpa [enc37] using hj)
    refine ⟨?_, (h i _ (List.getElem?_eq_getElem hi) j ((enc37 xs[i])[j]'(by simpa [enc37] using hj)) (List.getElem?_eq_getElem _)).2⟩
    rw [hin]
    have := (List.getElem?_eq_some_iff.1 hu).2
    rw [← this]
  · rw [List.getElem?_set_ne e] at hk
    rw [World.cell?_setCells_out g _ _ _ _ (fun _ _ => by simp [enc37]; omega)]
    exact h k x hk j u hu
theorem RowP.cut {w : World} {g : Nat} {xs : List S37} (h : RowP w g xs) (i : Nat) (vs : List Value) : RowP (w.setCells g (i * 3) vs) g (xs.take i) := by
  intro k x hk j u hu
  have hj : j < 3 := by have := (List.getElem?_eq_some_iff.1 hu).1; simpa [enc37] using this
  rw [List.getElem?_take] at hk
  split at hk
  · rw [World.frozen?_setCells, World.cell?_setCells_out g _ _ _ _ (fun _ _ => by left; show k * 3 + j < i * 3; omega)]
    exact h k x hk j u hu
  · cases hk
theorem below_sets {B g : Nat} {w0 w : World} (hg : B ≤ g) (vs : List Value) (o : Nat) (h : Below B w0 w) : Below B w0 (w.setCells g o vs) := by
  obtain ⟨s1, s2, s3, s4⟩ := setCells_same g vs o w
  exact ⟨s1.trans h.os, s2.trans h.tape, s3.trans h.output, by rw [s4]; exact h.size, fun i hi => (setCells_far vs o i (by omega)).trans (h.block i hi)⟩
theorem info37U : (Tryz.prog.info? 37).map (fun i => (i.zero, i.size, i.bytes)) = some (some (.agg #[(.int .i64 0), (.int .i64 0), (.string (⟨#[]⟩ : ByteArray))]), 3, 32) := by kernel_rfl
def enc46 (x : S46) : List Value := [.int .i64 x.f0, .int .i64 x.f1, .string x.f2.f0, .string x.f2.f1, .bool x.f2.f2]
def RowS (w : World) (g : Nat) (xs : List S46) : Prop := ∀ (i : Nat) (x : S46), xs[i]? = some x → ∀ (j : Nat) (u : Value), (enc46 x)[j]? = some u → w.cell? ⟨g, i * 5 + j, none⟩ = some u ∧ w.frozen? ⟨g, i * 5 + j, none⟩ = false
theorem RowS.at0 {w : World} {g : Nat} {xs : List S46} (h : RowS w g xs) {i : Nat} {x : S46} (hi : xs[i]? = some x) : w.cell? ⟨g, i * 5, none⟩ = some (.int .i64 x.f0) ∧ w.cell? ⟨g, i * 5 + 1, none⟩ = some (.int .i64 x.f1) ∧ w.cell? ⟨g, i * 5 + 2, none⟩ = some (.string x.f2.f0) ∧ w.cell? ⟨g, i * 5 + 3, none⟩ = some (.string x.f2.f1) ∧ w.cell? ⟨g, i * 5 + 4, none⟩ = some (.bool x.f2.f2) ∧ w.frozen? ⟨g, i * 5, none⟩ = false ∧ w.frozen? ⟨g, i * 5 + 1, none⟩ = false ∧ w.frozen? ⟨g, i * 5 + 2, none⟩ = false ∧ w.frozen? ⟨g, i * 5 + 3, none⟩ = false ∧ w.frozen? ⟨g, i * 5 + 4, none⟩ = false :=
  ⟨(h i x hi 0 _ rfl).1, (h i x hi 1 _ rfl).1, (h i x hi 2 _ rfl).1, (h i x hi 3 _ rfl).1, (h i x hi 4 _ rfl).1, (h i x hi 0 _ rfl).2, (h i x hi 1 _ rfl).2, (h i x hi 2 _ rfl).2, (h i x hi 3 _ rfl).2, (h i x hi 4 _ rfl).2⟩
theorem RowS.same {w w' : World} {g : Nat} {xs : List S46} (h : RowS w g xs) (e : w'.heap[g]? = w.heap[g]?) : RowS w' g xs := by
  intro i x hi j u hu
  have := h i x hi j u hu
  simpa [World.cell?, World.frozen?, e] using this
theorem RowS.below {w w' : World} {g : Nat} {xs : List S46} (h : RowS w g xs) (hg : g < w.heap.size) (hb : Below w.heap.size w w') : RowS w' g xs := h.same (hb.block g hg)
theorem RowS.lt {w : World} {g : Nat} {xs : List S46} (h : RowS w g xs) (hn : 0 < xs.length) : g < w.heap.size := by
  have := (h 0 _ (List.getElem?_eq_getElem hn) 0 _ rfl).1
  exact World.block_lt_of_cell? w _ this
theorem RowS.take {w : World} {g : Nat} {xs : List S46} (h : RowS w g xs) (n : Nat) : RowS w g (xs.take n) := by
  intro i x hi
  refine h i x ?_
  rw [List.getElem?_take] at hi
  split at hi
  · exact hi
  · cases hi
theorem RowS.C {w : World} {g : Nat} {xs : List S46} (h : RowS w g xs) (hl : xs.length ≤ 9223372036854775807) : Kd.C k46 w (some ⟨g, 0, none⟩) xs.length xs := by
  refine ⟨rfl, hl, fun _ => ⟨_, rfl, fun j p hp => ⟨enc46 p, rfl, k46_mk w p, fun i u hu => ?_⟩⟩⟩
  have := (h j p hp i u hu).1
  rw [add_plain]
  exact this
structure KeptRowS (p : S46 → Bool) (xs L : List S46) (i j : Nat) : Prop where
  len : L.length = xs.length
  lt : i < j
  le : j ≤ xs.length
  low : L.take i = (xs.take j).filter fun x => !p x
  high : ∀ k, j ≤ k → L[k]? = xs[k]?
theorem KeptRowS.start {p : S46 → Bool} {xs : List S46} {k : Nat} {y : S46} (hk : k < xs.length) (h : ∀ x ∈ xs.take k, p x = false) (hy : xs[k]? = some y) (hp : p y = true) : KeptRowS p xs xs k (k + 1) := by
  refine ⟨rfl, Nat.lt_succ_self _, hk, ?_, fun _ _ => rfl⟩
  rw [List.take_add_one, hy, List.filter_append, List.filter_eq_self.2 (fun x hx => by rw [h x hx]; rfl)]
  simp [hp]
theorem KeptRowS.skip {p : S46 → Bool} {xs L : List S46} {i j : Nat} {y : S46} (h : KeptRowS p xs L i j) (hy : xs[j]? = some y) (hp : p y = true) : KeptRowS p xs L i (j + 1) := by
  have hj := (List.getElem?_eq_some_iff.1 hy).1
  refine ⟨h.len, Nat.lt_succ_of_lt h.lt, hj, ?_, fun k hk => h.high k (by omega)⟩
  rw [List.take_add_one, hy, List.filter_append, h.low]
  simp [hp]
theorem KeptRowS.keep {p : S46 → Bool} {xs L : List S46} {i j : Nat} {y : S46} (h : KeptRowS p xs L i j) (hy : xs[j]? = some y) (hp : p y = false) : KeptRowS p xs (L.set i y) (i + 1) (j + 1) := by
  have hj := (List.getElem?_eq_some_iff.1 hy).1
  have hlen := h.len
  have hlt := h.lt
  refine ⟨by rw [List.length_set]; exact h.len, by omega, hj, ?_, fun k hk => ?_⟩
  · rw [List.take_add_one, List.getElem?_set_self (by omega), List.take_set_of_le (Nat.le_refl _), h.low, List.take_add_one, hy, List.filter_append]
    simp [hp]
  · rw [List.getElem?_set_ne (by omega)]; exact h.high k (by omega)
theorem RowS.set {w : World} {g : Nat} {xs : List S46} (h : RowS w g xs) (i : Nat) (hi : i < xs.length) (y : S46) : RowS (w.setCells g (i * 5) (enc46 y)) g (xs.set i y) := by
  intro k x hk j u hu
  have hj : j < 5 := by have := (List.getElem?_eq_some_iff.1 hu).1; simpa [enc46] using this
  rw [World.frozen?_setCells]
  by_cases e : i = k
  · subst e
    rw [List.getElem?_set_self hi, Option.some.injEq] at hk
    subst hk
    have hin := World.cell?_setCells_in g (enc46 y) (i * 5) w (fun t ht => by
      have ht3 : t < 5 := by simpa [enc46] using ht
      have := (h i _ (List.getElem?_eq_getElem hi) t ((enc46 xs[i])[t]'(by simpa [enc46] using ht3)) (List.getElem?_eq_getElem _)).1
      rw [this]; rfl) j (by simpa [enc46] using hj)
    refine ⟨?_, (h i _ (List.getElem?_eq_getElem hi) j ((enc46 xs[i])[j]'(by simpa [enc46] using hj)) (List.getElem?_eq_getElem _)).2⟩
    rw [hin]
    have := (List.getElem?_eq_some_iff.1 hu).2
    rw [← this]
  · rw [List.getElem?_set_ne e] at hk
    rw [World.cell?_setCells_out g _ _ _ _ (fun _ _ => by simp [enc46]; omega)]
    exact h k x hk j u hu
theorem RowS.cut {w : World} {g : Nat} {xs : List S46} (h : RowS w g xs) (i : Nat) (vs : List Value) : RowS (w.setCells g (i * 5) vs) g (xs.take i) := by
  intro k x hk j u hu
  have hj : j < 5 := by have := (List.getElem?_eq_some_iff.1 hu).1; simpa [enc46] using this
  rw [List.getElem?_take] at hk
  split at hk
  · rw [World.frozen?_setCells, World.cell?_setCells_out g _ _ _ _ (fun _ _ => by left; show k * 5 + j < i * 5; omega)]
    exact h k x hk j u hu
  · cases hk
end Go.Proofs.YtldlenjfpjihdaaGreat.PS
end
section
namespace Go.Proofs.YtldlenjfpjihdaaGreat.PS
open Go Go.RowKit Go.Proofs Go.Maps Go.Proofs.YtldlenjfpjihdaaGreatW.PrintWords Go.Proofs.YtldlenjfpjihdaaGreatW.PrintLast Go.Proofs.YtldlenjfpjihdaaGreatW.PrintMore
set_option linter.unusedVariables false
set_option linter.unusedSimpArgs false
theorem results_c1 {P : Program} {fn : Func} {p : Tmp} {ty : TypeId} (h : fn.results = #[.cell p ty]) (tmps : Array Value) (w : World) (g : Nat) (t : TypeId) (cs : Array Value) (fr : Nat × Nat) (d : TypeDesc)
    (hp : tmps.getD p undef = .pointer (some ⟨g, 0, none⟩)) (hg : w.heap[g]? = some (.cells cs t fr))
    (hu : P.underlying ty = some d) (hd : (match d with | .struct _ | .array _ _ => true | _ => false) = true) (hi : (P.info? ty).map (·.size) = some cs.size) :
    (results fn tmps).run P w = .ok (.agg cs) w := by
  have hp' : tmps[p]?.getD undef = .pointer (some ⟨g, 0, none⟩) := by simpa using hp
  simp [results, h, hp', asAddr, run_loadVar_row w g t ty cs fr d hg hu hd hi]
def ClP (W : World) (base : Nat) (v : Value) (xs : List S37) : Prop := (v = .slice none 0 0 ∧ xs = []) ∨ ∃ g cap, v = .slice (some ⟨g, 0, none⟩) xs.length cap ∧ base ≤ g ∧ g < W.heap.size ∧ xs.length ≤ cap ∧ RowP W g xs
theorem ClP.below {w w' : World} {base : Nat} {v : Value} {xs : List S37} (h : ClP w base v xs) (hb : Below w.heap.size w w') : ClP w' base v xs := by
  rcases h with h | ⟨g, cap, e, h1, h2, h3, h4⟩
  · exact .inl h
  · exact .inr ⟨g, cap, e, h1, Nat.lt_of_lt_of_le h2 hb.size, h3, h4.below h2 hb⟩
theorem ClP.form {w : World} {base : Nat} {v : Value} {xs : List S37} (h : ClP w base v xs) : ∃ A n c, v = .slice A n c := by
  rcases h with ⟨rfl, _⟩ | ⟨g, cap, rfl, _⟩
  · exact ⟨_, _, _, rfl⟩
  · exact ⟨_, _, _, rfl⟩
theorem ClP.reads {w : World} {base : Nat} {v : Value} {xs : List S37} (h : ClP w base v xs) (hl : xs.length ≤ 9223372036854775807) : ∃ A c, v = .slice A xs.length c ∧ xs.length ≤ c ∧ Kd.C k37 w A xs.length xs := by
  rcases h with ⟨rfl, rfl⟩ | ⟨g, cap, e, h1, h2, h3, h4⟩
  · exact ⟨none, 0, rfl, Nat.le_refl _, (Kd.R_reads' (Kd.R_nil k37 37 w 0 (fun _ => True))).2.2⟩
  · exact ⟨_, cap, e, h3, h4.C hl⟩
def ClS (W : World) (base : Nat) (v : Value) (xs : List S46) : Prop := (v = .slice none 0 0 ∧ xs = []) ∨ ∃ g cap, v = .slice (some ⟨g, 0, none⟩) xs.length cap ∧ base ≤ g ∧ g < W.heap.size ∧ xs.length ≤ cap ∧ RowS W g xs
theorem ClS.below {w w' : World} {base : Nat} {v : Value} {xs : List S46} (h : ClS w base v xs) (hb : Below w.heap.size w w') : ClS w' base v xs := by
  rcases h with h | ⟨g, cap, e, h1, h2, h3, h4⟩
  · exact .inl h
  · exact .inr ⟨g, cap, e, h1, Nat.lt_of_lt_of_le h2 hb.size, h3, h4.below h2 hb⟩
theorem ClS.form {w : World} {base : Nat} {v : Value} {xs : List S46} (h : ClS w base v xs) : ∃ A n c, v = .slice A n c := by
  rcases h with ⟨rfl, _⟩ | ⟨g, cap, rfl, _⟩
  · exact ⟨_, _, _, rfl⟩
  · exact ⟨_, _, _, rfl⟩
theorem ClS.reads {w : World} {base : Nat} {v : Value} {xs : List S46} (h : ClS w base v xs) (hl : xs.length ≤ 9223372036854775807) : ∃ A c, v = .slice A xs.length c ∧ xs.length ≤ c ∧ Kd.C k46 w A xs.length xs := by
  rcases h with ⟨rfl, rfl⟩ | ⟨g, cap, e, h1, h2, h3, h4⟩
  · exact ⟨none, 0, rfl, Nat.le_refl _, (Kd.R_reads' (Kd.R_nil k46 46 w 0 (fun _ => True))).2.2⟩
  · exact ⟨_, cap, e, h3, h4.C hl⟩
def T20_3 : Bool × List (List Nat × List Nat) := (true, [([], []), ([], []), ([1], [1]), ([2], [2]), ([0, 3], [0, 3]), ([4], [4]), ([], []), ([], []), ([7], [7]), ([8], [8]), ([6, 9], [6, 9]), ([10, 5], [10]), ([5, 11, 0, 1, 2, 3, 4, 5], [5]), ([11, 12, 0, 1, 2, 3, 4, 5, 6, 7, 8, 9, 10, 11, 12], [11])])
theorem tab20_3 : rtab .any (opsOf Tryz.f55 3) = T20_3 := by kernel_rfl
def T20_6 : Bool × List (List Nat × List Nat) := (true, [([], []), ([0], [0]), ([1], [1]), ([2], [2]), ([3], [3]), ([4, 3], [3, 4]), ([5, 3], [3, 5]), ([6, 3, 3], [3, 6]), ([7], [7]), ([8, 7], [7, 8]), ([9, 7], [7, 9]), ([7], [7]), ([11, 7], [7, 11]), ([12, 7], [7, 12]), ([10, 13, 7, 7], [7, 10, 13]), ([14, 7], [7, 14]), ([7, 15, 3], [3, 7, 15]), ([3, 16], [3, 16])])
theorem tab20_6 : rtab .any (opsOf Tryz.f55 6) = T20_6 := by kernel_rfl
def T20_9 : Bool × List (List Nat × List Nat) := (true, [([], []), ([0], [0]), ([1], [1]), ([2], [2]), ([3], [3]), ([4, 3], [3, 4]), ([5, 3], [3, 5]), ([3], [3]), ([7, 3], [3, 7]), ([8, 3], [3, 8]), ([6, 9, 3, 3], [3, 6, 9]), ([10, 3], [3, 10]), ([3, 11], [3, 11])])
theorem tab20_9 : rtab .any (opsOf Tryz.f55 9) = T20_9 := by kernel_rfl
theorem add_zero_ (a : Addr) : a.add 0 = a := by cases a; simp [Addr.add]
theorem app37 {ops : Array Oper} {rest : List Oper} {o : Oper} {a : Act} {Q : Exit → Act → World → Prop} {w0 W : World} {base n0 : Nat} (hgd : o.guard = none) (s x : Operand) (ho : o.op = .call { callee := .builtin .append, args := #[s, x], argTypes := #[22, 22] })
    (v : Value) (xs : List S37) (p : S37) (hs : a.eval s = v) (hx : a.eval x = .slice (some ⟨n0, 0, none⟩) 1 1) (hn0 : n0 = W.heap.size) {ok : Nat → Prop} (hok : ∀ k, W.heap.size ≤ k → ok k)
    (HO : Kd.R k37 37 W base ok v xs) (HB : Below base w0 W) (hbase : base ≤ W.heap.size) (hl : (xs.length + 1) * 32 ≤ 140737488355328)
    (h : ∀ v1 w1, Kd.R k37 37 w1 base ok v1 (xs ++ [p]) → Below base w0 w1 → W.grownBy w1 v.ownBlock → wpList Tryz.prog ops Q rest (a.put o.dst v1) w1) :
    wpList Tryz.prog ops Q (o :: rest) a (W.alloc (.cells #[.int .i64 p.f0, .int .i64 p.f1, .string p.f2] 37)) := by
  subst hn0
  refine Kd.R_append k37 (w0 := w0) (W := W) base hgd s x 22 37 (.agg #[(.int .i64 0), (.int .i64 0), (.string ⟨#[]⟩)]) 32 ho Tryz.underlying22 info37 rfl (by decide) (by omega) v xs p [.int .i64 p.f0, .int .i64 p.f1, .string p.f2] ok (fun _ => False) hs hx (k37_mkM _ _ _ p) (fun _ hk => hk.elim) hok HO HB hbase hl ?_
  intro v1 w1 ho hb hg _
  exact h v1 w1 ho hb hg
def SortedAt (l : List S37) (w : World) (e : Ending) (w' : World) : Prop := ∃ (A' : Option Addr) (c' : Nat) (r : List S37), e = .returned (.slice A' r.length c') ∧ r.length ≤ c' ∧ Sorts l r ∧ Kd.C k37 w' A' r.length r ∧ Below w.heap.size w w'
set_option maxHeartbeats 8000000 in
set_option maxRecDepth 100000 in
theorem sorted_any : ∀ (N : Nat) (l : List S37) (A : Option Addr) (c : Nat) (w : World), l.length = N → Kd.C k37 w A l.length l → l.length ≤ c → l.length < 4398046511104 → Calls Tryz.prog 55 #[.slice A l.length c] w (SortedAt l w) := by
  intro N
  induction N using Nat.strongRecOn with
  | _ N ih =>
    intro l A c w hN hC hc hl
    subst hN
    have HC := Aside0.mk hC
    clear hC
    by_cases h2 : l.length < 2
    · have h2z : (l.length : Int) < 2 := by omega
      go_enter Tryz.func55, Tryz.ntmps55
      go_wp2
      go_ret
      exact ⟨A, c, l, rfl, hc, sorts_one h2, HC.out, Below.refl _ _⟩
    · have h2z : ¬ (l.length : Int) < 2 := by omega
      obtain ⟨h, hh⟩ : ∃ h, h = l.length / 2 := ⟨_, rfl⟩
      have hd0 : (l.length : Int) / 2 = (h : Int) := by omega
      have hd : IntKind.i64.wrap ((l.length : Int) / 2) = (h : Int) := by
        have e : IntKind.i64.wrap (h : Int) = wrap64 (h : Int) := i64_w _
        rw [hd0, e]
        exact wrap64_id (by omega) (by omega)
      clear hd0
      have h1 : 0 < h := by omega
      have h3 : h < l.length := by omega
      have h4 : (h : Int) ≤ (l.length : Int) := by omega
      have h5 : (h : Int) ≤ (c : Int) := by omega
      have HH := Aside0.mk hh
      clear hh
      have IH := Aside0.mk ih
      clear ih
      go_enter Tryz.func55, Tryz.ntmps55
      go_wp2
      refine start_ (n := 14) (S := fun w' => True) (ds := []) #[false, false, false, false, false, false, false, false, false, false, false, false, false, false] (by kernel_rfl) rfl rfl trivial (fun hHeld => ?_); refine with_tab tab20_3 (fun HT_ => ?_)
      have HB2 := Aside0.mk (below_drew1 (Below.refl w.heap.size w))
      generalize w.drew = w2 at HB2 hHeld ⊢
      refine pure_ (i := 0) (N := some 10) (v := ?_) (a' := ?_) #[true, false, false, false, false, false, false, false, false, false, false, false, false, false] rfl rfl (any_of HT_.out (by kernel_rfl)) (fun _ _ _ h => h) (Or.inl ⟨by rfl, ?_⟩) ?_ ?_
      rotate_left
      · intro w'
        go_simp
        with_reducible rfl
      rotate_left
      · simp only [Act.put, List.setIfInBounds_toArray, List.set_cons_zero, List.set_cons_succ, i64_w, i32_w]
        rfl
      refine pure_ (i := 1) (N := some 11) (v := ?_) (a' := ?_) #[true, true, false, false, false, false, false, false, false, false, false, false, false, false] rfl rfl (any_of HT_.out (by kernel_rfl)) (fun _ _ _ h => h) (Or.inl ⟨by rfl, ?_⟩) ?_ ?_
      rotate_left
      · intro w'
        go_simp
        with_reducible rfl
      rotate_left
      · simp only [Act.put, List.setIfInBounds_toArray, List.set_cons_zero, List.set_cons_succ, i64_w, i32_w]
        rfl
      refine pure_ (i := 2) (N := some 12) (v := ?_) (a' := ?_) #[true, true, true, false, false, false, false, false, false, false, false, false, false, false] rfl rfl (any_of HT_.out (by kernel_rfl)) (fun _ _ _ h => h) (Or.inl ⟨by rfl, ?_⟩) ?_ ?_
      rotate_left
      · intro w'
        go_simp
        with_reducible rfl
      rotate_left
      · simp only [Act.put, List.setIfInBounds_toArray, List.set_cons_zero, List.set_cons_succ, i64_w, i32_w]
        rfl
      refine pure_ (i := 3) (N := some 13) (v := ?_) (a' := ?_) #[true, true, true, true, false, false, false, false, false, false, false, false, false, false] rfl rfl (any_of HT_.out (by kernel_rfl)) (fun _ _ _ h => h) (Or.inl ⟨by rfl, ?_⟩) ?_ ?_
      rotate_left
      · intro w'
        go_simp
        with_reducible rfl
      rotate_left
      · simp only [Act.put, List.setIfInBounds_toArray, List.set_cons_zero, List.set_cons_succ, i64_w, i32_w]
        rfl
      refine pure_ (i := 4) (N := some 14) (v := ?_) (a' := ?_) #[true, true, true, true, true, false, false, false, false, false, false, false, false, false] rfl rfl (any_of HT_.out (by kernel_rfl)) (fun _ _ _ h => h) (Or.inl ⟨by rfl, ?_⟩) ?_ ?_
      rotate_left
      · intro w'
        go_simp
        with_reducible rfl
      rotate_left
      · simp only [Act.put, List.setIfInBounds_toArray, List.set_cons_zero, List.set_cons_succ, i64_w, i32_w]
        rfl
      refine pure_ (i := 6) (N := some 16) (v := ?_) (a' := ?_) #[true, true, true, true, true, false, true, false, false, false, false, false, false, false] rfl rfl (any_of HT_.out (by kernel_rfl)) (fun _ _ _ h => h) (Or.inl ⟨by rfl, ?_⟩) ?_ ?_
      rotate_left
      · intro w'
        go_simp
        with_reducible rfl
      rotate_left
      · simp only [Act.put, List.setIfInBounds_toArray, List.set_cons_zero, List.set_cons_succ, i64_w, i32_w]
        rfl
      refine pure_ (i := 7) (N := some 17) (v := ?_) (a' := ?_) #[true, true, true, true, true, false, true, true, false, false, false, false, false, false] rfl rfl (any_of HT_.out (by kernel_rfl)) (fun _ _ _ h => h) (Or.inl ⟨by rfl, ?_⟩) ?_ ?_
      rotate_left
      · intro w'
        go_simp
        with_reducible rfl
      rotate_left
      · simp only [Act.put, List.setIfInBounds_toArray, List.set_cons_zero, List.set_cons_succ, i64_w, i32_w]
        rfl
      refine pure_ (i := 8) (N := some 18) (v := ?_) (a' := ?_) #[true, true, true, true, true, false, true, true, true, false, false, false, false, false] rfl rfl (any_of HT_.out (by kernel_rfl)) (fun _ _ _ h => h) (Or.inl ⟨by rfl, ?_⟩) ?_ ?_
      rotate_left
      · intro w'
        go_simp
        with_reducible rfl
      rotate_left
      · simp only [Act.put, List.setIfInBounds_toArray, List.set_cons_zero, List.set_cons_succ, i64_w, i32_w]
        rfl
      refine pure_ (i := 9) (N := some 19) (v := ?_) (a' := ?_) #[true, true, true, true, true, false, true, true, true, true, false, false, false, false] rfl rfl (any_of HT_.out (by kernel_rfl)) (fun _ _ _ h => h) (Or.inl ⟨by rfl, ?_⟩) ?_ ?_
      rotate_left
      · intro w'
        go_simp
        with_reducible rfl
      rotate_left
      · simp only [Act.put, List.setIfInBounds_toArray, List.set_cons_zero, List.set_cons_succ, i64_w, i32_w]
        rfl
      refine pure_ (i := 10) (N := some 20) (v := ?_) (a' := ?_) #[true, true, true, true, true, false, true, true, true, true, true, false, false, false] rfl rfl (any_of HT_.out (by kernel_rfl)) (fun _ _ _ h => h) (Or.inl ⟨by rfl, ?_⟩) ?_ ?_
      rotate_left
      · intro w'
        go_simp
        with_reducible rfl
      rotate_left
      · simp only [Act.put, List.setIfInBounds_toArray, List.set_cons_zero, List.set_cons_succ, i64_w, i32_w]
        rfl
      have e1 : (l.take h).length = h := by rw [List.length_take]; omega
      have e2 : (l.drop h).length = l.length - h := List.length_drop
      have hcall1 := IH.out h h3 (l.take h) A c w2 e1 (Kd.C_take (Kd.C_below HC.out HB2.out) (by omega)) (by omega) (by omega)
      rw [e1] at hcall1
      refine one_ (i := 5) (N := some 15) #[true, true, true, true, true, true, true, true, true, true, true, false, false, false] rfl rfl (one_of HT_.out (by kernel_rfl)) (by decide) (fun K hK => ?_)
      refine goes_ Tryz.func55 (by kernel_rfl) rfl #[.slice A h c] (by rfl) rfl rfl (by (try simp only [List.map_toArray, List.map_cons, List.map_nil]); first | done | rfl) ?_
      refine hcall1.mono ?_
      rintro e w3 ⟨A3, c3, r3, rfl, hc3, hs3, hC3, hb⟩
      refine ⟨_, rfl, ?_⟩
      have HB3 := Aside0.mk (below_step HB2.out hb); have HS3 := Aside0.mk hs3; have HC3 := Aside0.mk hC3; clear hb hs3 hC3 hcall1
      refine hK.out _ _ trivial (fun hHeld3 => ?_)
      clear hK K
      refine norm_ (a' := ?_) ?_ ?_
      rotate_left
      · show Act.put _ (some 15) _ = _
        simp only [Act.put, List.setIfInBounds_toArray, List.set_cons_zero, List.set_cons_succ, i64_w, i32_w]
        rfl
      have hcall2 := IH.out (l.length - h) (by omega) (l.drop h) (if c = h then A else A.map (·.add (h * 3))) (c - h) w3 e2 (Kd.C_drop (Kd.C_below HC.out HB3.out) (by omega) hc) (by omega) (by omega)
      rw [e2] at hcall2
      refine one_ (i := 11) (N := some 21) #[true, true, true, true, true, true, true, true, true, true, true, true, false, false] rfl rfl (one_of HT_.out (by kernel_rfl)) (by decide) (fun K hK => ?_)
      refine goes_ Tryz.func55 (by kernel_rfl) rfl #[.slice (if c = h then A else A.map (·.add (h * 3))) (l.length - h) (c - h)] (by rfl) rfl rfl (by (try simp only [List.map_toArray, List.map_cons, List.map_nil]); first | done | rfl) ?_
      refine hcall2.mono ?_
      rintro e w4 ⟨A4, c4, r4, rfl, hc4, hs4, hC4, hb⟩
      refine ⟨_, rfl, ?_⟩
      have HC3' := Aside0.mk (Kd.C_below HC3.out hb); have HB4 := Aside0.mk (below_step HB3.out hb); have HS4 := Aside0.mk hs4; have HC4 := Aside0.mk hC4; clear hb hs4 hC4 hcall2
      refine hK.out _ _ trivial (fun hHeld4 => ?_)
      clear hK K
      refine norm_ (a' := ?_) ?_ ?_
      rotate_left
      · show Act.put _ (some 21) _ = _
        simp only [Act.put, List.setIfInBounds_toArray, List.set_cons_zero, List.set_cons_succ, i64_w, i32_w]
        rfl
      refine pure_ (i := 12) (N := some 3) (v := ?_) (a' := ?_) #[true, true, true, true, true, true, true, true, true, true, true, true, true, false] rfl rfl (any_of HT_.out (by kernel_rfl)) (fun _ _ _ h => h) (Or.inl ⟨by rfl, ?_⟩) ?_ ?_
      rotate_left
      · intro w'
        go_simp
        with_reducible rfl
      rotate_left
      · simp only [Act.put, List.setIfInBounds_toArray, List.set_cons_zero, List.set_cons_succ, i64_w, i32_w]
        rfl
      refine pure_ (i := 13) (N := some 4) (v := ?_) (a' := ?_) #[true, true, true, true, true, true, true, true, true, true, true, true, true, true] rfl rfl (any_of HT_.out (by kernel_rfl)) (fun _ _ _ h => h) (Or.inl ⟨by rfl, ?_⟩) ?_ ?_
      rotate_left
      · intro w'
        go_simp
        with_reducible rfl
      rotate_left
      · simp only [Act.put, List.setIfInBounds_toArray, List.set_cons_zero, List.set_cons_succ, i64_w, i32_w]
        rfl
      refine done_ (done_of HT_.out (by kernel_rfl)) ?_
      have HSm := Aside0.mk (sorts_merge HS3.out HS4.out)
      clear hHeld hHeld3 hHeld4 HT_
      go_wp2_with ((with_reducible refine gate_dst (N := 22) rfl ?_); refine Kd.R_lit k37 _ 37 ?hg (N := 22) ?hd (xs := ([] : List (S37))) (inner := []) (ok := fun _ => True) (okp := fun _ => True) ?hr ?hp (fun _ hk => hk) trivial (Below.refl _ _) (Nat.le_refl _) (by simp) ?_; (case hd => rfl); (case hg => rfl); (case hr => first | (go_simp; done) | (go_simp; rfl)); (case hp => exact (Reps.none _ _)); intro v5 w5 ho5 hb5 hg_ hnew_; clear hg_ hnew_; have HO5 := Aside0.mk ho5; have HB5 := Aside0.mk hb5; clear ho5 hb5)
      go_loopg [3, 4, 5] (r3.length + r4.length) (fun gg s3 s4 s5 wr => ∃ (a b o : List S37) (Aa Ab : Option Addr) (ca cb : Nat), s3 = .slice Aa a.length ca ∧ s4 = .slice Ab b.length cb ∧ a.length ≤ ca ∧ b.length ≤ cb ∧ Aside0 (a.length + b.length ≤ gg) ∧ Aside0 (o.length + (a.length + b.length) ≤ l.length) ∧ Aside0 (o ++ mergeP a b = mergeP r3 r4) ∧ Aside0 (Kd.C k37 w4 Aa a.length a) ∧ Aside0 (Kd.C k37 w4 Ab b.length b) ∧ Aside0 (Kd.R k37 37 wr w4.heap.size (fun _ => True) s5 o) ∧ Aside0 (Below w4.heap.size w4 wr))
      case atStart => exact ⟨r3, r4, [], A3, A4, c3, c4, rfl, rfl, hc3, hc4, ⟨Nat.le_refl _⟩, ⟨by have h1 := HS3.out.2.2; have h2 := HS4.out.2.2; rw [e1] at h1; rw [e2] at h2; simp only [List.length_nil]; omega⟩, ⟨rfl⟩, ⟨HC3'.out⟩, ⟨HC4.out⟩, ⟨HO5.out⟩, ⟨HB5.out⟩⟩
      case round =>
        obtain ⟨a, b, o, Aa, Ab, ca, cb, rfl, rfl, hca, hcb, HM, HLen, HEq, HCa, HCb, HO, HBr⟩ := hrel
        cases a with
        | nil =>
          cases b with
          | nil =>
            have hm : o = mergeP r3 r4 := by have := HEq.out; rwa [show mergeP [] [] = [] by unfold mergeP; rfl, List.append_nil] at this
            subst hm
            obtain ⟨Ao, co, rfl⟩ := Kd.R_slice HO.out
            obtain ⟨_, hro, hCo⟩ := Kd.R_reads' HO.out
            have HRo := Aside0.mk hCo
            clear hCo
            go_wp2
            go_ret
            exact ⟨Ao, co, _, rfl, hro, HSm.out, HRo.out, below_step HB4.out HBr.out⟩
          | cons y b =>
            obtain ⟨ad, ea, a0, a1, a2⟩ := at_T37 HCb.out 0 (by decide) (by simp only [List.length_cons]; omega)
            subst ea
            rw [show rd_T37 (y :: b) 0 = y from rfl] at a0 a1 a2
            simp only [Int.toNat_zero, Nat.zero_mul, add_zero_] at a0 a1 a2
            replace a0 := (HBr.out.cell (World.block_lt_of_cell? _ _ a0)).trans a0
            replace a1 := (HBr.out.cell (World.block_lt_of_cell? _ _ a1)).trans a1
            replace a2 := (HBr.out.cell (World.block_lt_of_cell? _ _ a2)).trans a2
            have HA := Aside0.mk (And.intro a0 (And.intro a1 a2)); clear a0 a1 a2
            have hlc : (((y :: b).length : Nat) : Int) > 0 := by simp only [List.length_cons]; omega
            have hlz : ¬ (((y :: b).length : Nat) : Int) = 0 := by simp only [List.length_cons]; omega
            have HCd := Aside0.mk (Kd.C_drop (m := 1) HCb.out (by simp only [List.length_cons]; omega) hcb)
            generalize hbl : (y :: b).length = nb at *
            have hlb : ((nb : Int) == 0) = false := by simpa using hlz
            have HBl := Aside0.mk hbl; clear hbl
            go_wp2
            refine start_ (n := 18) (S := fun w' => True) (ds := []) #[false, false, false, false, false, false, false, false, false, false, false, false, false, false, false, false, false, false] (by kernel_rfl) rfl rfl trivial (fun hHeld => ?_); refine with_tab tab20_6 (fun HT_ => ?_)
            have HBA := Aside0.mk (below_drew1 (Below.refl wr.heap.size wr))
            generalize wr.drew = wA at HBA hHeld ⊢
            refine pure_ (i := 0) (N := some 31) (v := ?_) (a' := ?_) #[true, false, false, false, false, false, false, false, false, false, false, false, false, false, false, false, false, false] rfl rfl (any_of HT_.out (by kernel_rfl)) (fun _ _ _ h => h) (Or.inl ⟨by rfl, ?_⟩) ?_ ?_
            rotate_left
            · intro w'
              go_simp
              with_reducible rfl
            rotate_left
            · simp only [Act.put, List.setIfInBounds_toArray, List.set_cons_zero, List.set_cons_succ, i64_w, i32_w]
              rfl
            refine pure_ (i := 1) (N := some 32) (v := ?_) (a' := ?_) #[true, true, false, false, false, false, false, false, false, false, false, false, false, false, false, false, false, false] rfl rfl (any_of HT_.out (by kernel_rfl)) (fun _ _ _ h => h) (Or.inl ⟨by rfl, ?_⟩) ?_ ?_
            rotate_left
            · intro w'
              go_simp
              with_reducible rfl
            rotate_left
            · simp only [Act.put, List.setIfInBounds_toArray, List.set_cons_zero, List.set_cons_succ, i64_w, i32_w]
              rfl
            refine pure_ (i := 2) (N := some 33) (v := ?_) (a' := ?_) #[true, true, true, false, false, false, false, false, false, false, false, false, false, false, false, false, false, false] rfl rfl (any_of HT_.out (by kernel_rfl)) (fun _ _ _ h => h) (Or.inl ⟨by rfl, ?_⟩) ?_ ?_
            rotate_left
            · intro w'
              go_simp
              with_reducible rfl
            rotate_left
            · simp only [Act.put, List.setIfInBounds_toArray, List.set_cons_zero, List.set_cons_succ, i64_w, i32_w]
              rfl
            refine pure_ (i := 3) (N := some 34) (v := ?_) (a' := ?_) #[true, true, true, true, false, false, false, false, false, false, false, false, false, false, false, false, false, false] rfl rfl (any_of HT_.out (by kernel_rfl)) (fun _ _ _ h => h) (Or.inl ⟨by rfl, ?_⟩) ?_ ?_
            rotate_left
            · intro w'
              go_simp
              with_reducible rfl
            rotate_left
            · simp only [Act.put, List.setIfInBounds_toArray, List.set_cons_zero, List.set_cons_succ, i64_w, i32_w]
              rfl
            refine pure_ (i := 4) (N := some 35) (v := ?_) (a' := ?_) #[true, true, true, true, true, false, false, false, false, false, false, false, false, false, false, false, false, false] rfl rfl (any_of HT_.out (by kernel_rfl)) (fun _ _ _ h => h) (Or.inl ⟨by rfl, ?_⟩) ?_ ?_
            rotate_left
            · intro w'
              go_simp
              with_reducible rfl
            rotate_left
            · simp only [Act.put, List.setIfInBounds_toArray, List.set_cons_zero, List.set_cons_succ, i64_w, i32_w]
              rfl
            refine pure_ (i := 5) (N := some 36) (v := ?_) (a' := ?_) #[true, true, true, true, true, true, false, false, false, false, false, false, false, false, false, false, false, false] rfl rfl (any_of HT_.out (by kernel_rfl)) (fun _ _ _ h => h) (Or.inl ⟨by rfl, ?_⟩) ?_ ?_
            rotate_left
            · intro w'
              go_simp
              with_reducible rfl
            rotate_left
            · simp only [Act.put, List.setIfInBounds_toArray, List.set_cons_zero, List.set_cons_succ, i64_w, i32_w]
              rfl
            refine pure_ (i := 6) (N := some 37) (v := ?_) (a' := ?_) #[true, true, true, true, true, true, true, false, false, false, false, false, false, false, false, false, false, false] rfl rfl (any_of HT_.out (by kernel_rfl)) (fun _ _ _ h => h) (Or.inl ⟨by rfl, ?_⟩) ?_ ?_
            rotate_left
            · intro w'
              go_simp
              with_reducible rfl
            rotate_left
            · simp only [Act.put, List.setIfInBounds_toArray, List.set_cons_zero, List.set_cons_succ, i64_w, i32_w]
              rfl
            refine pure_ (i := 7) (N := some 38) (v := ?_) (a' := ?_) #[true, true, true, true, true, true, true, true, false, false, false, false, false, false, false, false, false, false] rfl rfl (any_of HT_.out (by kernel_rfl)) (fun _ _ _ h => h) (Or.inl ⟨by rfl, ?_⟩) ?_ ?_
            rotate_left
            · intro w'
              go_simp
              with_reducible rfl
            rotate_left
            · simp only [Act.put, List.setIfInBounds_toArray, List.set_cons_zero, List.set_cons_succ, i64_w, i32_w]
              rfl
            refine pure_ (i := 8) (N := some 39) (v := undef) (a' := ?_) #[true, true, true, true, true, true, true, true, true, false, false, false, false, false, false, false, false, false] rfl rfl (any_of HT_.out (by kernel_rfl)) (fun _ _ _ h => h) (Or.inr ⟨by rfl, rfl⟩) ?_ ?_
            rotate_left
            · simp only [Act.put, List.setIfInBounds_toArray, List.set_cons_zero, List.set_cons_succ, i64_w, i32_w]
              rfl
            refine pure_ (i := 9) (N := some 40) (v := undef) (a' := ?_) #[true, true, true, true, true, true, true, true, true, true, false, false, false, false, false, false, false, false] rfl rfl (any_of HT_.out (by kernel_rfl)) (fun _ _ _ h => h) (Or.inr ⟨by rfl, rfl⟩) ?_ ?_
            rotate_left
            · simp only [Act.put, List.setIfInBounds_toArray, List.set_cons_zero, List.set_cons_succ, i64_w, i32_w]
              rfl
            refine pure_ (i := 10) (N := some 41) (v := undef) (a' := ?_) #[true, true, true, true, true, true, true, true, true, true, true, false, false, false, false, false, false, false] rfl rfl (any_of HT_.out (by kernel_rfl)) (fun _ _ _ h => h) (Or.inr ⟨by rfl, rfl⟩) ?_ ?_
            rotate_left
            · simp only [Act.put, List.setIfInBounds_toArray, List.set_cons_zero, List.set_cons_succ, i64_w, i32_w]
              rfl
            refine pure_ (i := 11) (N := some 42) (v := undef) (a' := ?_) #[true, true, true, true, true, true, true, true, true, true, true, true, false, false, false, false, false, false] rfl rfl (any_of HT_.out (by kernel_rfl)) (fun _ _ _ h => h) (Or.inr ⟨by rfl, rfl⟩) ?_ ?_
            rotate_left
            · simp only [Act.put, List.setIfInBounds_toArray, List.set_cons_zero, List.set_cons_succ, i64_w, i32_w]
              rfl
            refine pure_ (i := 12) (N := some 43) (v := undef) (a' := ?_) #[true, true, true, true, true, true, true, true, true, true, true, true, true, false, false, false, false, false] rfl rfl (any_of HT_.out (by kernel_rfl)) (fun _ _ _ h => h) (Or.inr ⟨by rfl, rfl⟩) ?_ ?_
            rotate_left
            · simp only [Act.put, List.setIfInBounds_toArray, List.set_cons_zero, List.set_cons_succ, i64_w, i32_w]
              rfl
            refine pure_ (i := 13) (N := some 44) (v := undef) (a' := ?_) #[true, true, true, true, true, true, true, true, true, true, true, true, true, true, false, false, false, false] rfl rfl (any_of HT_.out (by kernel_rfl)) (fun _ _ _ h => h) (Or.inr ⟨by rfl, rfl⟩) ?_ ?_
            rotate_left
            · simp only [Act.put, List.setIfInBounds_toArray, List.set_cons_zero, List.set_cons_succ, i64_w, i32_w]
              rfl
            refine pure_ (i := 14) (N := some 45) (v := undef) (a' := ?_) #[true, true, true, true, true, true, true, true, true, true, true, true, true, true, true, false, false, false] rfl rfl (any_of HT_.out (by kernel_rfl)) (fun _ _ _ h => h) (Or.inr ⟨by rfl, rfl⟩) ?_ ?_
            rotate_left
            · simp only [Act.put, List.setIfInBounds_toArray, List.set_cons_zero, List.set_cons_succ, i64_w, i32_w]
              rfl
            refine pure_ (i := 15) (N := some 46) (v := undef) (a' := ?_) #[true, true, true, true, true, true, true, true, true, true, true, true, true, true, true, true, false, false] rfl rfl (any_of HT_.out (by kernel_rfl)) (fun _ _ _ h => h) (Or.inr ⟨by rfl, rfl⟩) ?_ ?_
            rotate_left
            · simp only [Act.put, List.setIfInBounds_toArray, List.set_cons_zero, List.set_cons_succ, i64_w, i32_w]
              rfl
            refine pure_ (i := 16) (N := some 47) (v := ?_) (a' := ?_) #[true, true, true, true, true, true, true, true, true, true, true, true, true, true, true, true, true, false] rfl rfl (any_of HT_.out (by kernel_rfl)) (fun _ _ _ h => h) (Or.inl ⟨by rfl, ?_⟩) ?_ ?_
            rotate_left
            · intro w'
              go_simp
              with_reducible rfl
            rotate_left
            · simp only [Act.put, List.setIfInBounds_toArray, List.set_cons_zero, List.set_cons_succ, i64_w, i32_w]
              rfl
            refine pure_ (i := 17) (N := some 48) (v := ?_) (a' := ?_) #[true, true, true, true, true, true, true, true, true, true, true, true, true, true, true, true, true, true] rfl rfl (any_of HT_.out (by kernel_rfl)) (fun _ _ _ h => h) (Or.inl ⟨by rfl, ?_⟩) ?_ ?_
            rotate_left
            · intro w'
              go_simp
              with_reducible rfl
            rotate_left
            · simp only [Act.put, List.setIfInBounds_toArray, List.set_cons_zero, List.set_cons_succ, i64_w, i32_w]
              rfl
            refine done_ (done_of HT_.out (by kernel_rfl)) ?_
            clear hHeld HT_
            go_wp2
            refine start_ (n := 13) (S := fun w' => True) (ds := []) #[false, false, false, false, false, false, false, false, false, false, false, false, false] (by kernel_rfl) rfl rfl trivial (fun hHeld => ?_); refine with_tab tab20_9 (fun HT_ => ?_)
            have HBB := Aside0.mk (below_step HBA.out (below_drew1 (Below.refl wA.heap.size wA)))
            generalize wA.drew = wB at HBB hHeld ⊢
            refine pure_ (i := 0) (N := some 57) (v := ?_) (a' := ?_) #[true, false, false, false, false, false, false, false, false, false, false, false, false] rfl rfl (any_of HT_.out (by kernel_rfl)) (fun _ _ _ h => h) (Or.inl ⟨by rfl, ?_⟩) ?_ ?_
            rotate_left
            · intro w'
              go_simp
              with_reducible rfl
            rotate_left
            · simp only [Act.put, List.setIfInBounds_toArray, List.set_cons_zero, List.set_cons_succ, i64_w, i32_w]
              rfl
            refine pure_ (i := 1) (N := some 58) (v := ?_) (a' := ?_) #[true, true, false, false, false, false, false, false, false, false, false, false, false] rfl rfl (any_of HT_.out (by kernel_rfl)) (fun _ _ _ h => h) (Or.inl ⟨by rfl, ?_⟩) ?_ ?_
            rotate_left
            · intro w'
              go_simp
              with_reducible rfl
            rotate_left
            · simp only [Act.put, List.setIfInBounds_toArray, List.set_cons_zero, List.set_cons_succ, i64_w, i32_w]
              rfl
            refine pure_ (i := 2) (N := some 59) (v := ?_) (a' := ?_) #[true, true, true, false, false, false, false, false, false, false, false, false, false] rfl rfl (any_of HT_.out (by kernel_rfl)) (fun _ _ _ h => h) (Or.inl ⟨by rfl, ?_⟩) ?_ ?_
            rotate_left
            · intro w'
              go_simp
              with_reducible rfl
            rotate_left
            · simp only [Act.put, List.setIfInBounds_toArray, List.set_cons_zero, List.set_cons_succ, i64_w, i32_w]
              rfl
            refine pure_ (i := 3) (N := some 60) (v := ?_) (a' := ?_) #[true, true, true, true, false, false, false, false, false, false, false, false, false] rfl rfl (any_of HT_.out (by kernel_rfl)) (fun _ _ _ h => h) (Or.inl ⟨by rfl, ?_⟩) ?_ ?_
            rotate_left
            · intro w'
              go_simp
              with_reducible rfl
            rotate_left
            · simp only [Act.put, List.setIfInBounds_toArray, List.set_cons_zero, List.set_cons_succ, i64_w, i32_w]
              rfl
            refine pure_ (i := 4) (N := some 61) (v := undef) (a' := ?_) #[true, true, true, true, true, false, false, false, false, false, false, false, false] rfl rfl (any_of HT_.out (by kernel_rfl)) (fun _ _ _ h => h) (Or.inr ⟨by rfl, rfl⟩) ?_ ?_
            rotate_left
            · simp only [Act.put, List.setIfInBounds_toArray, List.set_cons_zero, List.set_cons_succ, i64_w, i32_w]
              rfl
            refine pure_ (i := 5) (N := some 62) (v := undef) (a' := ?_) #[true, true, true, true, true, true, false, false, false, false, false, false, false] rfl rfl (any_of HT_.out (by kernel_rfl)) (fun _ _ _ h => h) (Or.inr ⟨by rfl, rfl⟩) ?_ ?_
            rotate_left
            · simp only [Act.put, List.setIfInBounds_toArray, List.set_cons_zero, List.set_cons_succ, i64_w, i32_w]
              rfl
            refine pure_ (i := 6) (N := some 63) (v := undef) (a' := ?_) #[true, true, true, true, true, true, true, false, false, false, false, false, false] rfl rfl (any_of HT_.out (by kernel_rfl)) (fun _ _ _ h => h) (Or.inr ⟨by rfl, rfl⟩) ?_ ?_
            rotate_left
            · simp only [Act.put, List.setIfInBounds_toArray, List.set_cons_zero, List.set_cons_succ, i64_w, i32_w]
              rfl
            refine pure_ (i := 7) (N := some 64) (v := undef) (a' := ?_) #[true, true, true, true, true, true, true, true, false, false, false, false, false] rfl rfl (any_of HT_.out (by kernel_rfl)) (fun _ _ _ h => h) (Or.inr ⟨by rfl, rfl⟩) ?_ ?_
            rotate_left
            · simp only [Act.put, List.setIfInBounds_toArray, List.set_cons_zero, List.set_cons_succ, i64_w, i32_w]
              rfl
            refine pure_ (i := 8) (N := some 65) (v := undef) (a' := ?_) #[true, true, true, true, true, true, true, true, true, false, false, false, false] rfl rfl (any_of HT_.out (by kernel_rfl)) (fun _ _ _ h => h) (Or.inr ⟨by rfl, rfl⟩) ?_ ?_
            rotate_left
            · simp only [Act.put, List.setIfInBounds_toArray, List.set_cons_zero, List.set_cons_succ, i64_w, i32_w]
              rfl
            refine pure_ (i := 9) (N := some 66) (v := undef) (a' := ?_) #[true, true, true, true, true, true, true, true, true, true, false, false, false] rfl rfl (any_of HT_.out (by kernel_rfl)) (fun _ _ _ h => h) (Or.inr ⟨by rfl, rfl⟩) ?_ ?_
            rotate_left
            · simp only [Act.put, List.setIfInBounds_toArray, List.set_cons_zero, List.set_cons_succ, i64_w, i32_w]
              rfl
            refine pure_ (i := 10) (N := some 67) (v := undef) (a' := ?_) #[true, true, true, true, true, true, true, true, true, true, true, false, false] rfl rfl (any_of HT_.out (by kernel_rfl)) (fun _ _ _ h => h) (Or.inr ⟨by rfl, rfl⟩) ?_ ?_
            rotate_left
            · simp only [Act.put, List.setIfInBounds_toArray, List.set_cons_zero, List.set_cons_succ, i64_w, i32_w]
              rfl
            refine pure_ (i := 11) (N := some 68) (v := undef) (a' := ?_) #[true, true, true, true, true, true, true, true, true, true, true, true, false] rfl rfl (any_of HT_.out (by kernel_rfl)) (fun _ _ _ h => h) (Or.inr ⟨by rfl, rfl⟩) ?_ ?_
            rotate_left
            · simp only [Act.put, List.setIfInBounds_toArray, List.set_cons_zero, List.set_cons_succ, i64_w, i32_w]
              rfl
            refine pure_ (i := 12) (N := some 69) (v := ?_) (a' := ?_) #[true, true, true, true, true, true, true, true, true, true, true, true, true] rfl rfl (any_of HT_.out (by kernel_rfl)) (fun _ _ _ h => h) (Or.inl ⟨by rfl, ?_⟩) ?_ ?_
            rotate_left
            · intro w'
              go_simp
              with_reducible rfl
            rotate_left
            · simp only [Act.put, List.setIfInBounds_toArray, List.set_cons_zero, List.set_cons_succ, i64_w, i32_w]
              rfl
            refine done_ (done_of HT_.out (by kernel_rfl)) ?_
            clear hHeld HT_
            have a0 := (HBB.out.cell (World.block_lt_of_cell? _ _ HA.out.1)).trans HA.out.1; have a1 := (HBB.out.cell (World.block_lt_of_cell? _ _ HA.out.2.1)).trans HA.out.2.1; have a2 := (HBB.out.cell (World.block_lt_of_cell? _ _ HA.out.2.2)).trans HA.out.2.2
            by_cases hc1 : cb = 1
            · have HCd2 := Aside0.mk (show Kd.C k37 w4 _ b.length b by have := HCd.out; rw [if_pos hc1] at this; exact this)
              have hnb : nb - 1 = b.length := by have := HBl.out; simp only [List.length_cons] at this; omega
              have hcn : nb ≤ cb := hcb
              have hn1 : 1 ≤ nb := by have := HBl.out; simp only [List.length_cons] at this; omega
              have hc0 : cb - 1 = 0 := by omega
              have HOB := Aside0.mk (Kd.R_below HO.out HBB.out)
              have HWB := Aside0.mk (below_step HBr.out HBB.out)
              have hzb := HWB.out.size
              have hol : (o.length + 1) * 32 ≤ 140737488355328 := by have h1 := HLen.out; omega
              have HOL := Aside0.mk hol; clear hol
              go_wp2_with ((with_reducible refine gate_builtin (b := .append) (xs := #[.tmp 72, .tmp 76]) rfl ?_); at_builtin; refine app37 (w0 := w4) (base := w4.heap.size) (ok := fun _ => True) rfl (.tmp 72) (.tmp 76) rfl _ o y rfl rfl rfl (fun _ _ => trivial) HOB.out HWB.out hzb HOL.out ?_; intro v9 w9 ho9 hb9 hg9; have HO9 := Aside0.mk ho9; have HB9 := Aside0.mk hb9; clear ho9 hb9 hg9)
              go_roundg b.length
              case measure => have := HM.out; simp only [List.length_nil] at this; omega
              case rel => exact ⟨[], b, o ++ [y], Aa, _, ca, _, rfl, rfl, hca, by omega, ⟨by simp⟩, ⟨by have := HLen.out; simp only [List.length_append, List.length_cons, List.length_nil] at *; omega⟩, ⟨by have := HEq.out; rw [show mergeP [] (y :: b) = y :: mergeP [] b by conv => lhs; unfold mergeP] at this; simpa using this⟩, ⟨HCa.out⟩, ⟨HCd2.out⟩, ⟨HO9.out⟩, ⟨HB9.out⟩⟩
            · have HCd2 := Aside0.mk (show Kd.C k37 w4 _ b.length b by have := HCd.out; rw [if_neg hc1] at this; exact this)
              have hnb : nb - 1 = b.length := by have := HBl.out; simp only [List.length_cons] at this; omega
              have hcn : nb ≤ cb := hcb
              have hn1 : 1 ≤ nb := by have := HBl.out; simp only [List.length_cons] at this; omega
              have hc0 : ¬ cb - 1 = 0 := by omega
              have HOB := Aside0.mk (Kd.R_below HO.out HBB.out)
              have HWB := Aside0.mk (below_step HBr.out HBB.out)
              have hzb := HWB.out.size
              have hol : (o.length + 1) * 32 ≤ 140737488355328 := by have h1 := HLen.out; omega
              have HOL := Aside0.mk hol; clear hol
              go_wp2_with ((with_reducible refine gate_builtin (b := .append) (xs := #[.tmp 72, .tmp 76]) rfl ?_); at_builtin; refine app37 (w0 := w4) (base := w4.heap.size) (ok := fun _ => True) rfl (.tmp 72) (.tmp 76) rfl _ o y rfl rfl rfl (fun _ _ => trivial) HOB.out HWB.out hzb HOL.out ?_; intro v9 w9 ho9 hb9 hg9; have HO9 := Aside0.mk ho9; have HB9 := Aside0.mk hb9; clear ho9 hb9 hg9)
              go_roundg b.length
              case measure => have := HM.out; simp only [List.length_nil] at this; omega
              case rel => exact ⟨[], b, o ++ [y], Aa, _, ca, _, rfl, rfl, hca, by omega, ⟨by simp⟩, ⟨by have := HLen.out; simp only [List.length_append, List.length_cons, List.length_nil] at *; omega⟩, ⟨by have := HEq.out; rw [show mergeP [] (y :: b) = y :: mergeP [] b by conv => lhs; unfold mergeP] at this; simpa using this⟩, ⟨HCa.out⟩, ⟨HCd2.out⟩, ⟨HO9.out⟩, ⟨HB9.out⟩⟩
        | cons x a =>
          cases b with
          | nil =>
            obtain ⟨ad, ea, a0, a1, a2⟩ := at_T37 HCa.out 0 (by decide) (by simp only [List.length_cons]; omega)
            subst ea
            rw [show rd_T37 (x :: a) 0 = x from rfl] at a0 a1 a2
            simp only [Int.toNat_zero, Nat.zero_mul, add_zero_] at a0 a1 a2
            replace a0 := (HBr.out.cell (World.block_lt_of_cell? _ _ a0)).trans a0
            replace a1 := (HBr.out.cell (World.block_lt_of_cell? _ _ a1)).trans a1
            replace a2 := (HBr.out.cell (World.block_lt_of_cell? _ _ a2)).trans a2
            have HA := Aside0.mk (And.intro a0 (And.intro a1 a2)); clear a0 a1 a2
            have hlc : (((x :: a).length : Nat) : Int) > 0 := by simp only [List.length_cons]; omega
            have HCd := Aside0.mk (Kd.C_drop (m := 1) HCa.out (by simp only [List.length_cons]; omega) hca)
            generalize hbl : (x :: a).length = nb at *
            have HBl := Aside0.mk hbl; clear hbl
            go_wp2
            refine start_ (n := 18) (S := fun w' => True) (ds := []) #[false, false, false, false, false, false, false, false, false, false, false, false, false, false, false, false, false, false] (by kernel_rfl) rfl rfl trivial (fun hHeld => ?_); refine with_tab tab20_6 (fun HT_ => ?_)
            have HBB := Aside0.mk (below_drew1 (Below.refl wr.heap.size wr))
            generalize wr.drew = wB at HBB hHeld ⊢
            refine pure_ (i := 0) (N := some 31) (v := ?_) (a' := ?_) #[true, false, false, false, false, false, false, false, false, false, false, false, false, false, false, false, false, false] rfl rfl (any_of HT_.out (by kernel_rfl)) (fun _ _ _ h => h) (Or.inl ⟨by rfl, ?_⟩) ?_ ?_
            rotate_left
            · intro w'
              go_simp
              with_reducible rfl
            rotate_left
            · simp only [Act.put, List.setIfInBounds_toArray, List.set_cons_zero, List.set_cons_succ, i64_w, i32_w]
              rfl
            refine pure_ (i := 1) (N := some 32) (v := ?_) (a' := ?_) #[true, true, false, false, false, false, false, false, false, false, false, false, false, false, false, false, false, false] rfl rfl (any_of HT_.out (by kernel_rfl)) (fun _ _ _ h => h) (Or.inl ⟨by rfl, ?_⟩) ?_ ?_
            rotate_left
            · intro w'
              go_simp
              with_reducible rfl
            rotate_left
            · simp only [Act.put, List.setIfInBounds_toArray, List.set_cons_zero, List.set_cons_succ, i64_w, i32_w]
              rfl
            refine pure_ (i := 2) (N := some 33) (v := ?_) (a' := ?_) #[true, true, true, false, false, false, false, false, false, false, false, false, false, false, false, false, false, false] rfl rfl (any_of HT_.out (by kernel_rfl)) (fun _ _ _ h => h) (Or.inl ⟨by rfl, ?_⟩) ?_ ?_
            rotate_left
            · intro w'
              go_simp
              with_reducible rfl
            rotate_left
            · simp only [Act.put, List.setIfInBounds_toArray, List.set_cons_zero, List.set_cons_succ, i64_w, i32_w]
              rfl
            refine pure_ (i := 3) (N := some 34) (v := ?_) (a' := ?_) #[true, true, true, true, false, false, false, false, false, false, false, false, false, false, false, false, false, false] rfl rfl (any_of HT_.out (by kernel_rfl)) (fun _ _ _ h => h) (Or.inl ⟨by rfl, ?_⟩) ?_ ?_
            rotate_left
            · intro w'
              go_simp
              with_reducible rfl
            rotate_left
            · simp only [Act.put, List.setIfInBounds_toArray, List.set_cons_zero, List.set_cons_succ, i64_w, i32_w]
              rfl
            refine pure_ (i := 4) (N := some 35) (v := undef) (a' := ?_) #[true, true, true, true, true, false, false, false, false, false, false, false, false, false, false, false, false, false] rfl rfl (any_of HT_.out (by kernel_rfl)) (fun _ _ _ h => h) (Or.inr ⟨by rfl, rfl⟩) ?_ ?_
            rotate_left
            · simp only [Act.put, List.setIfInBounds_toArray, List.set_cons_zero, List.set_cons_succ, i64_w, i32_w]
              rfl
            refine pure_ (i := 5) (N := some 36) (v := undef) (a' := ?_) #[true, true, true, true, true, true, false, false, false, false, false, false, false, false, false, false, false, false] rfl rfl (any_of HT_.out (by kernel_rfl)) (fun _ _ _ h => h) (Or.inr ⟨by rfl, rfl⟩) ?_ ?_
            rotate_left
            · simp only [Act.put, List.setIfInBounds_toArray, List.set_cons_zero, List.set_cons_succ, i64_w, i32_w]
              rfl
            refine pure_ (i := 6) (N := some 37) (v := undef) (a' := ?_) #[true, true, true, true, true, true, true, false, false, false, false, false, false, false, false, false, false, false] rfl rfl (any_of HT_.out (by kernel_rfl)) (fun _ _ _ h => h) (Or.inr ⟨by rfl, rfl⟩) ?_ ?_
            rotate_left
            · simp only [Act.put, List.setIfInBounds_toArray, List.set_cons_zero, List.set_cons_succ, i64_w, i32_w]
              rfl
            refine pure_ (i := 7) (N := some 38) (v := undef) (a' := ?_) #[true, true, true, true, true, true, true, true, false, false, false, false, false, false, false, false, false, false] rfl rfl (any_of HT_.out (by kernel_rfl)) (fun _ _ _ h => h) (Or.inr ⟨by rfl, rfl⟩) ?_ ?_
            rotate_left
            · simp only [Act.put, List.setIfInBounds_toArray, List.set_cons_zero, List.set_cons_succ, i64_w, i32_w]
              rfl
            refine pure_ (i := 8) (N := some 39) (v := undef) (a' := ?_) #[true, true, true, true, true, true, true, true, true, false, false, false, false, false, false, false, false, false] rfl rfl (any_of HT_.out (by kernel_rfl)) (fun _ _ _ h => h) (Or.inr ⟨by rfl, rfl⟩) ?_ ?_
            rotate_left
            · simp only [Act.put, List.setIfInBounds_toArray, List.set_cons_zero, List.set_cons_succ, i64_w, i32_w]
              rfl
            refine pure_ (i := 9) (N := some 40) (v := undef) (a' := ?_) #[true, true, true, true, true, true, true, true, true, true, false, false, false, false, false, false, false, false] rfl rfl (any_of HT_.out (by kernel_rfl)) (fun _ _ _ h => h) (Or.inr ⟨by rfl, rfl⟩) ?_ ?_
            rotate_left
            · simp only [Act.put, List.setIfInBounds_toArray, List.set_cons_zero, List.set_cons_succ, i64_w, i32_w]
              rfl
            refine pure_ (i := 10) (N := some 41) (v := undef) (a' := ?_) #[true, true, true, true, true, true, true, true, true, true, true, false, false, false, false, false, false, false] rfl rfl (any_of HT_.out (by kernel_rfl)) (fun _ _ _ h => h) (Or.inr ⟨by rfl, rfl⟩) ?_ ?_
            rotate_left
            · simp only [Act.put, List.setIfInBounds_toArray, List.set_cons_zero, List.set_cons_succ, i64_w, i32_w]
              rfl
            refine pure_ (i := 11) (N := some 42) (v := undef) (a' := ?_) #[true, true, true, true, true, true, true, true, true, true, true, true, false, false, false, false, false, false] rfl rfl (any_of HT_.out (by kernel_rfl)) (fun _ _ _ h => h) (Or.inr ⟨by rfl, rfl⟩) ?_ ?_
            rotate_left
            · simp only [Act.put, List.setIfInBounds_toArray, List.set_cons_zero, List.set_cons_succ, i64_w, i32_w]
              rfl
            refine pure_ (i := 12) (N := some 43) (v := undef) (a' := ?_) #[true, true, true, true, true, true, true, true, true, true, true, true, true, false, false, false, false, false] rfl rfl (any_of HT_.out (by kernel_rfl)) (fun _ _ _ h => h) (Or.inr ⟨by rfl, rfl⟩) ?_ ?_
            rotate_left
            · simp only [Act.put, List.setIfInBounds_toArray, List.set_cons_zero, List.set_cons_succ, i64_w, i32_w]
              rfl
            refine pure_ (i := 13) (N := some 44) (v := undef) (a' := ?_) #[true, true, true, true, true, true, true, true, true, true, true, true, true, true, false, false, false, false] rfl rfl (any_of HT_.out (by kernel_rfl)) (fun _ _ _ h => h) (Or.inr ⟨by rfl, rfl⟩) ?_ ?_
            rotate_left
            · simp only [Act.put, List.setIfInBounds_toArray, List.set_cons_zero, List.set_cons_succ, i64_w, i32_w]
              rfl
            refine pure_ (i := 14) (N := some 45) (v := undef) (a' := ?_) #[true, true, true, true, true, true, true, true, true, true, true, true, true, true, true, false, false, false] rfl rfl (any_of HT_.out (by kernel_rfl)) (fun _ _ _ h => h) (Or.inr ⟨by rfl, rfl⟩) ?_ ?_
            rotate_left
            · simp only [Act.put, List.setIfInBounds_toArray, List.set_cons_zero, List.set_cons_succ, i64_w, i32_w]
              rfl
            refine pure_ (i := 15) (N := some 46) (v := undef) (a' := ?_) #[true, true, true, true, true, true, true, true, true, true, true, true, true, true, true, true, false, false] rfl rfl (any_of HT_.out (by kernel_rfl)) (fun _ _ _ h => h) (Or.inr ⟨by rfl, rfl⟩) ?_ ?_
            rotate_left
            · simp only [Act.put, List.setIfInBounds_toArray, List.set_cons_zero, List.set_cons_succ, i64_w, i32_w]
              rfl
            refine pure_ (i := 16) (N := some 47) (v := undef) (a' := ?_) #[true, true, true, true, true, true, true, true, true, true, true, true, true, true, true, true, true, false] rfl rfl (any_of HT_.out (by kernel_rfl)) (fun _ _ _ h => h) (Or.inr ⟨by rfl, rfl⟩) ?_ ?_
            rotate_left
            · simp only [Act.put, List.setIfInBounds_toArray, List.set_cons_zero, List.set_cons_succ, i64_w, i32_w]
              rfl
            refine pure_ (i := 17) (N := some 48) (v := ?_) (a' := ?_) #[true, true, true, true, true, true, true, true, true, true, true, true, true, true, true, true, true, true] rfl rfl (any_of HT_.out (by kernel_rfl)) (fun _ _ _ h => h) (Or.inl ⟨by rfl, ?_⟩) ?_ ?_
            rotate_left
            · intro w'
              go_simp
              with_reducible rfl
            rotate_left
            · simp only [Act.put, List.setIfInBounds_toArray, List.set_cons_zero, List.set_cons_succ, i64_w, i32_w]
              rfl
            refine done_ (done_of HT_.out (by kernel_rfl)) ?_
            clear hHeld HT_
            have a0 := (HBB.out.cell (World.block_lt_of_cell? _ _ HA.out.1)).trans HA.out.1; have a1 := (HBB.out.cell (World.block_lt_of_cell? _ _ HA.out.2.1)).trans HA.out.2.1; have a2 := (HBB.out.cell (World.block_lt_of_cell? _ _ HA.out.2.2)).trans HA.out.2.2
            by_cases hc1 : ca = 1
            · have HCd2 := Aside0.mk (show Kd.C k37 w4 _ a.length a by have := HCd.out; rw [if_pos hc1] at this; exact this)
              have hnb : nb - 1 = a.length := by have := HBl.out; simp only [List.length_cons] at this; omega
              have hcn : nb ≤ ca := hca
              have hn1 : 1 ≤ nb := by have := HBl.out; simp only [List.length_cons] at this; omega
              have hc0 : ca - 1 = 0 := by omega
              have HOB := Aside0.mk (Kd.R_below HO.out HBB.out)
              have HWB := Aside0.mk (below_step HBr.out HBB.out)
              have hzb := HWB.out.size
              have hol : (o.length + 1) * 32 ≤ 140737488355328 := by have h1 := HLen.out; omega
              have HOL := Aside0.mk hol; clear hol
              go_wp2_with ((with_reducible refine gate_builtin (b := .append) (xs := #[.tmp 49, .tmp 53]) rfl ?_); at_builtin; refine app37 (w0 := w4) (base := w4.heap.size) (ok := fun _ => True) rfl (.tmp 49) (.tmp 53) rfl _ o x rfl rfl rfl (fun _ _ => trivial) HOB.out HWB.out hzb HOL.out ?_; intro v9 w9 ho9 hb9 hg9; have HO9 := Aside0.mk ho9; have HB9 := Aside0.mk hb9; clear ho9 hb9 hg9)
              go_roundg a.length
              case measure => have := HM.out; simp only [List.length_nil] at this; omega
              case rel => exact ⟨a, [], o ++ [x], _, Ab, _, cb, rfl, rfl, by omega, hcb, ⟨by simp⟩, ⟨by have := HLen.out; simp only [List.length_append, List.length_cons, List.length_nil] at *; omega⟩, ⟨by have := HEq.out; rw [show mergeP (x :: a) [] = x :: mergeP a [] by conv => lhs; unfold mergeP] at this; simpa using this⟩, ⟨HCd2.out⟩, ⟨HCb.out⟩, ⟨HO9.out⟩, ⟨HB9.out⟩⟩
            · have HCd2 := Aside0.mk (show Kd.C k37 w4 _ a.length a by have := HCd.out; rw [if_neg hc1] at this; exact this)
              have hnb : nb - 1 = a.length := by have := HBl.out; simp only [List.length_cons] at this; omega
              have hcn : nb ≤ ca := hca
              have hn1 : 1 ≤ nb := by have := HBl.out; simp only [List.length_cons] at this; omega
              have hc0 : ¬ ca - 1 = 0 := by omega
              have HOB := Aside0.mk (Kd.R_below HO.out HBB.out)
              have HWB := Aside0.mk (below_step HBr.out HBB.out)
              have hzb := HWB.out.size
              have hol : (o.length + 1) * 32 ≤ 140737488355328 := by have h1 := HLen.out; omega
              have HOL := Aside0.mk hol; clear hol
              go_wp2_with ((with_reducible refine gate_builtin (b := .append) (xs := #[.tmp 49, .tmp 53]) rfl ?_); at_builtin; refine app37 (w0 := w4) (base := w4.heap.size) (ok := fun _ => True) rfl (.tmp 49) (.tmp 53) rfl _ o x rfl rfl rfl (fun _ _ => trivial) HOB.out HWB.out hzb HOL.out ?_; intro v9 w9 ho9 hb9 hg9; have HO9 := Aside0.mk ho9; have HB9 := Aside0.mk hb9; clear ho9 hb9 hg9)
              go_roundg a.length
              case measure => have := HM.out; simp only [List.length_nil] at this; omega
              case rel => exact ⟨a, [], o ++ [x], _, Ab, _, cb, rfl, rfl, by omega, hcb, ⟨by simp⟩, ⟨by have := HLen.out; simp only [List.length_append, List.length_cons, List.length_nil] at *; omega⟩, ⟨by have := HEq.out; rw [show mergeP (x :: a) [] = x :: mergeP a [] by conv => lhs; unfold mergeP] at this; simpa using this⟩, ⟨HCd2.out⟩, ⟨HCb.out⟩, ⟨HO9.out⟩, ⟨HB9.out⟩⟩
          | cons y b =>
            obtain ⟨adx, ea, x0, x1, x2⟩ := at_T37 HCa.out 0 (by decide) (by simp only [List.length_cons]; omega)
            subst ea
            rw [show rd_T37 (x :: a) 0 = x from rfl] at x0 x1 x2
            simp only [Int.toNat_zero, Nat.zero_mul, add_zero_] at x0 x1 x2
            replace x0 := (HBr.out.cell (World.block_lt_of_cell? _ _ x0)).trans x0
            replace x1 := (HBr.out.cell (World.block_lt_of_cell? _ _ x1)).trans x1
            replace x2 := (HBr.out.cell (World.block_lt_of_cell? _ _ x2)).trans x2
            obtain ⟨ady, ea, y0, y1, y2⟩ := at_T37 HCb.out 0 (by decide) (by simp only [List.length_cons]; omega)
            subst ea
            rw [show rd_T37 (y :: b) 0 = y from rfl] at y0 y1 y2
            simp only [Int.toNat_zero, Nat.zero_mul, add_zero_] at y0 y1 y2
            replace y0 := (HBr.out.cell (World.block_lt_of_cell? _ _ y0)).trans y0
            replace y1 := (HBr.out.cell (World.block_lt_of_cell? _ _ y1)).trans y1
            replace y2 := (HBr.out.cell (World.block_lt_of_cell? _ _ y2)).trans y2
            have HA := Aside0.mk (show _ ∧ _ ∧ _ ∧ _ ∧ _ ∧ _ from ⟨x0, x1, x2, y0, y1, y2⟩); clear x0 x1 x2 y0 y1 y2
            have hlc : (((x :: a).length : Nat) : Int) > 0 := by simp only [List.length_cons]; omega
            have hld : (((y :: b).length : Nat) : Int) > 0 := by simp only [List.length_cons]; omega
            have hlz : ¬ (((y :: b).length : Nat) : Int) = 0 := by simp only [List.length_cons]; omega
            have HCda := Aside0.mk (Kd.C_drop (m := 1) HCa.out (by simp only [List.length_cons]; omega) hca)
            have HCdb := Aside0.mk (Kd.C_drop (m := 1) HCb.out (by simp only [List.length_cons]; omega) hcb)
            generalize hbl : (x :: a).length = na at *
            have HBl := Aside0.mk hbl; clear hbl
            generalize hbl : (y :: b).length = nb at *
            have HBm := Aside0.mk hbl; clear hbl
            have hlb : ((nb : Int) == 0) = false := by simpa using hlz
            have hq0 : 0 < na := by omega
            have hq1 : 0 < nb := by omega
            go_wp2
            refine start_ (n := 18) (S := fun w' => w'.cell? adx = some (.int .i64 x.f0) ∧ w'.cell? ⟨adx.block, adx.off + 1, none⟩ = some (.int .i64 x.f1) ∧ w'.cell? ⟨adx.block, adx.off + 2, none⟩ = some (.string x.f2) ∧ w'.cell? ady = some (.int .i64 y.f0) ∧ w'.cell? ⟨ady.block, ady.off + 1, none⟩ = some (.int .i64 y.f1) ∧ w'.cell? ⟨ady.block, ady.off + 2, none⟩ = some (.string y.f2)) (ds := []) #[false, false, false, false, false, false, false, false, false, false, false, false, false, false, false, false, false, false] (by kernel_rfl) rfl rfl HA.out (fun hHeld => ?_); refine with_tab tab20_6 (fun HT_ => ?_)
            have HBA := Aside0.mk (below_drew1 (Below.refl wr.heap.size wr))
            generalize wr.drew = wA at HBA hHeld ⊢
            refine pure_ (i := 0) (N := some 31) (v := ?_) (a' := ?_) #[true, false, false, false, false, false, false, false, false, false, false, false, false, false, false, false, false, false] rfl rfl (any_of HT_.out (by kernel_rfl)) (fun _ _ _ h => h) (Or.inl ⟨by rfl, ?_⟩) ?_ ?_
            rotate_left
            · intro w'
              go_simp
              with_reducible rfl
            rotate_left
            · simp only [Act.put, List.setIfInBounds_toArray, List.set_cons_zero, List.set_cons_succ, i64_w, i32_w]
              rfl
            refine pure_ (i := 1) (N := some 32) (v := ?_) (a' := ?_) #[true, true, false, false, false, false, false, false, false, false, false, false, false, false, false, false, false, false] rfl rfl (any_of HT_.out (by kernel_rfl)) (fun _ _ _ h => h) (Or.inl ⟨by rfl, ?_⟩) ?_ ?_
            rotate_left
            · intro w'
              go_simp
              with_reducible rfl
            rotate_left
            · simp only [Act.put, List.setIfInBounds_toArray, List.set_cons_zero, List.set_cons_succ, i64_w, i32_w]
              rfl
            refine pure_ (i := 2) (N := some 33) (v := ?_) (a' := ?_) #[true, true, true, false, false, false, false, false, false, false, false, false, false, false, false, false, false, false] rfl rfl (any_of HT_.out (by kernel_rfl)) (fun _ _ _ h => h) (Or.inl ⟨by rfl, ?_⟩) ?_ ?_
            rotate_left
            · intro w'
              go_simp
              with_reducible rfl
            rotate_left
            · simp only [Act.put, List.setIfInBounds_toArray, List.set_cons_zero, List.set_cons_succ, i64_w, i32_w]
              rfl
            refine pure_ (i := 3) (N := some 34) (v := ?_) (a' := ?_) #[true, true, true, true, false, false, false, false, false, false, false, false, false, false, false, false, false, false] rfl rfl (any_of HT_.out (by kernel_rfl)) (fun _ _ _ h => h) (Or.inl ⟨by rfl, ?_⟩) ?_ ?_
            rotate_left
            · intro w'
              go_simp
              with_reducible rfl
            rotate_left
            · simp only [Act.put, List.setIfInBounds_toArray, List.set_cons_zero, List.set_cons_succ, i64_w, i32_w]
              rfl
            refine pure_ (i := 4) (N := some 35) (v := ?_) (a' := ?_) #[true, true, true, true, true, false, false, false, false, false, false, false, false, false, false, false, false, false] rfl rfl (any_of HT_.out (by kernel_rfl)) (fun _ _ _ h => h) (Or.inl ⟨by rfl, ?_⟩) ?_ ?_
            rotate_left
            · intro w'
              go_simp
              with_reducible rfl
            rotate_left
            · simp only [Act.put, List.setIfInBounds_toArray, List.set_cons_zero, List.set_cons_succ, i64_w, i32_w]
              rfl
            refine pure_ (i := 5) (N := some 36) (v := ?_) (a' := ?_) #[true, true, true, true, true, true, false, false, false, false, false, false, false, false, false, false, false, false] rfl rfl (any_of HT_.out (by kernel_rfl)) (fun _ _ _ h => h) (Or.inl ⟨by rfl, ?_⟩) ?_ ?_
            rotate_left
            · intro w'
              go_simp
              with_reducible rfl
            rotate_left
            · simp only [Act.put, List.setIfInBounds_toArray, List.set_cons_zero, List.set_cons_succ, i64_w, i32_w]
              rfl
            refine pure_ (i := 6) (N := some 37) (v := ?_) (a' := ?_) #[true, true, true, true, true, true, true, false, false, false, false, false, false, false, false, false, false, false] rfl rfl (any_of HT_.out (by kernel_rfl)) (fun _ _ _ h => h) (Or.inl ⟨by rfl, ?_⟩) ?_ ?_
            rotate_left
            · intro w'
              go_simp
              with_reducible rfl
            rotate_left
            · simp only [Act.put, List.setIfInBounds_toArray, List.set_cons_zero, List.set_cons_succ, i64_w, i32_w]
              rfl
            refine pure_ (i := 7) (N := some 38) (v := ?_) (a' := ?_) #[true, true, true, true, true, true, true, true, false, false, false, false, false, false, false, false, false, false] rfl rfl (any_of HT_.out (by kernel_rfl)) (fun _ _ _ h => h) (Or.inl ⟨by rfl, ?_⟩) ?_ ?_
            rotate_left
            · intro w'
              go_simp
              with_reducible rfl
            rotate_left
            · simp only [Act.put, List.setIfInBounds_toArray, List.set_cons_zero, List.set_cons_succ, i64_w, i32_w]
              rfl
            refine pure_ (i := 8) (N := some 39) (v := ?_) (a' := ?_) #[true, true, true, true, true, true, true, true, true, false, false, false, false, false, false, false, false, false] rfl rfl (any_of HT_.out (by kernel_rfl)) (fun _ _ _ h => h) (Or.inl ⟨by rfl, ?_⟩) ?_ ?_
            rotate_left
            · intro w'
              go_simp
              with_reducible rfl
            rotate_left
            · simp only [Act.put, List.setIfInBounds_toArray, List.set_cons_zero, List.set_cons_succ, i64_w, i32_w]
              rfl
            refine pure_ (i := 9) (N := some 40) (v := ?_) (a' := ?_) #[true, true, true, true, true, true, true, true, true, true, false, false, false, false, false, false, false, false] rfl rfl (any_of HT_.out (by kernel_rfl)) (fun _ _ _ h => h) (Or.inl ⟨by rfl, ?_⟩) ?_ ?_
            rotate_left
            · intro w'
              go_simp
              with_reducible rfl
            rotate_left
            · simp only [Act.put, List.setIfInBounds_toArray, List.set_cons_zero, List.set_cons_succ, i64_w, i32_w]
              rfl
            refine pure_ (i := 11) (N := some 42) (v := ?_) (a' := ?_) #[true, true, true, true, true, true, true, true, true, true, false, true, false, false, false, false, false, false] rfl rfl (any_of HT_.out (by kernel_rfl)) (fun _ _ _ h => h) (Or.inl ⟨by rfl, ?_⟩) ?_ ?_
            rotate_left
            · intro w'
              go_simp
              with_reducible rfl
            rotate_left
            · simp only [Act.put, List.setIfInBounds_toArray, List.set_cons_zero, List.set_cons_succ, i64_w, i32_w]
              rfl
            refine pure_ (i := 12) (N := some 43) (v := ?_) (a' := ?_) #[true, true, true, true, true, true, true, true, true, true, false, true, true, false, false, false, false, false] rfl rfl (any_of HT_.out (by kernel_rfl)) (fun _ _ _ h => h) (Or.inl ⟨by rfl, ?_⟩) ?_ ?_
            rotate_left
            · intro w'
              go_simp
              with_reducible rfl
            rotate_left
            · simp only [Act.put, List.setIfInBounds_toArray, List.set_cons_zero, List.set_cons_succ, i64_w, i32_w]
              rfl
            refine take_ (i := 10) (N := some 41) (v := ?_) (a' := ?_) #[true, true, true, true, true, true, true, true, true, true, true, true, true, false, false, false, false, false] rfl rfl (take_of HT_.out (by kernel_rfl)) (fun _ _ _ h => h) (Or.inl ⟨by rfl, ?_⟩) hHeld ?_ ?_
            rotate_left
            · rintro w' ⟨s0, s1, s2, s3, s4, s5⟩
              go_simp
              with_reducible rfl
            rotate_left
            · simp only [Act.put, List.setIfInBounds_toArray, List.set_cons_zero, List.set_cons_succ, i64_w, i32_w]
              rfl
            refine take_ (i := 13) (N := some 44) (v := ?_) (a' := ?_) #[true, true, true, true, true, true, true, true, true, true, true, true, true, true, false, false, false, false] rfl rfl (take_of HT_.out (by kernel_rfl)) (fun _ _ _ h => h) (Or.inl ⟨by rfl, ?_⟩) hHeld ?_ ?_
            rotate_left
            · rintro w' ⟨s0, s1, s2, s3, s4, s5⟩
              go_simp
              with_reducible rfl
            rotate_left
            · simp only [Act.put, List.setIfInBounds_toArray, List.set_cons_zero, List.set_cons_succ, i64_w, i32_w]
              rfl
            refine one_ (i := 14) (N := some 45) #[true, true, true, true, true, true, true, true, true, true, true, true, true, true, true, false, false, false] rfl rfl (one_of HT_.out (by kernel_rfl)) (by decide) (fun K hK => ?_)
            refine goes_ Tryz.func78 (by kernel_rfl) rfl #[pv x, pv y] (by rfl) rfl rfl (by (try simp only [List.map_toArray, List.map_cons, List.map_nil]); first | done | rfl) ?_
            refine (vellumref17_Cmp.calls _ _ _ _ _ _ _ wA (cmp_eq x y)).mono ?_
            rintro e wC ⟨rfl, hb⟩
            refine ⟨_, rfl, ?_⟩
            have HBC := Aside0.mk (below_step HBA.out hb); clear hb
            have hcl := fun (p : Addr) (u : Value) (h : wr.cell? p = some u) => (HBC.out.cell (World.block_lt_of_cell? _ _ h)).trans h
            have hHn : _ ∧ _ ∧ _ ∧ _ ∧ _ ∧ _ := ⟨hcl _ _ HA.out.1, hcl _ _ HA.out.2.1, hcl _ _ HA.out.2.2.1, hcl _ _ HA.out.2.2.2.1, hcl _ _ HA.out.2.2.2.2.1, hcl _ _ HA.out.2.2.2.2.2⟩
            refine hK.out _ _ hHn (fun hHeld2 => ?_)
            clear hK K
            refine norm_ (a' := ?_) ?_ ?_
            rotate_left
            · show Act.put _ (some 45) _ = _
              simp only [Act.put, List.setIfInBounds_toArray, List.set_cons_zero, List.set_cons_succ, i64_w, i32_w]
              rfl
            refine pure_ (i := 15) (N := some 46) (v := ?_) (a' := ?_) #[true, true, true, true, true, true, true, true, true, true, true, true, true, true, true, true, false, false] rfl rfl (any_of HT_.out (by kernel_rfl)) (fun _ _ _ h => h) (Or.inl ⟨by rfl, ?_⟩) ?_ ?_
            rotate_left
            · intro w'
              go_simp
              with_reducible rfl
            rotate_left
            · simp only [Act.put, List.setIfInBounds_toArray, List.set_cons_zero, List.set_cons_succ, i64_w, i32_w]
              rfl
            refine pure_ (i := 16) (N := some 47) (v := ?_) (a' := ?_) #[true, true, true, true, true, true, true, true, true, true, true, true, true, true, true, true, true, false] rfl rfl (any_of HT_.out (by kernel_rfl)) (fun _ _ _ h => h) (Or.inl ⟨by rfl, ?_⟩) ?_ ?_
            rotate_left
            · intro w'
              go_simp
              with_reducible rfl
            rotate_left
            · simp only [Act.put, List.setIfInBounds_toArray, List.set_cons_zero, List.set_cons_succ, i64_w, i32_w]
              rfl
            refine pure_ (i := 17) (N := some 48) (v := ?_) (a' := ?_) #[true, true, true, true, true, true, true, true, true, true, true, true, true, true, true, true, true, true] rfl rfl (any_of HT_.out (by kernel_rfl)) (fun _ _ _ h => h) (Or.inl ⟨by rfl, ?_⟩) ?_ ?_
            rotate_left
            · intro w'
              go_simp
              with_reducible rfl
            rotate_left
            · simp only [Act.put, List.setIfInBounds_toArray, List.set_cons_zero, List.set_cons_succ, i64_w, i32_w]
              rfl
            refine done_ (done_of HT_.out (by kernel_rfl)) ?_
            have HHn := Aside0.mk hHn; clear hHn hcl hHeld hHeld2 HT_
            have hcLT := cmpP_lt x y; have hcZ := cmpP_zero x y
            by_cases hlt : ltP x y
            · have hcm : cmpP x y < 0 := hcLT.2 hlt; clear hcLT hcZ
              have HLt := Aside0.mk hlt; clear hlt
              have a0 := HHn.out.1; have a1 := HHn.out.2.1; have a2 := HHn.out.2.2.1
              by_cases hc1 : ca = 1
              · have HCd2 := Aside0.mk (show Kd.C k37 w4 _ a.length a by have := HCda.out; rw [if_pos hc1] at this; exact this)
                have hnb : na - 1 = a.length := by have := HBl.out; simp only [List.length_cons] at this; omega
                have hcn : na ≤ ca := by assumption
                have hn1 : 1 ≤ na := by have := HBl.out; simp only [List.length_cons] at this; omega
                have hc0 : ca - 1 = 0 := by omega
                have HOB := Aside0.mk (Kd.R_below HO.out HBC.out)
                have HWB := Aside0.mk (below_step HBr.out HBC.out)
                have hzb := HWB.out.size
                have hol : (o.length + 1) * 32 ≤ 140737488355328 := by have h1 := HLen.out; omega
                have HOL := Aside0.mk hol; clear hol
                go_wp2_with ((with_reducible refine gate_builtin (b := .append) (xs := #[.tmp 49, .tmp 53]) rfl ?_); at_builtin; refine app37 (w0 := w4) (base := w4.heap.size) (ok := fun _ => True) rfl (.tmp 49) (.tmp 53) rfl _ o x rfl rfl rfl (fun _ _ => trivial) HOB.out HWB.out hzb HOL.out ?_; intro v9 w9 ho9 hb9 hg9; have HO9 := Aside0.mk ho9; have HB9 := Aside0.mk hb9; clear ho9 hb9 hg9)
                go_roundg (a.length + nb)
                case measure => have := HM.out; have := HBl.out; have := HBm.out; simp only [List.length_cons] at *; omega
                case rel => exact ⟨a, y :: b, o ++ [x], _, _, _, cb, rfl, by rw [HBm.out], by omega, by rw [HBm.out]; exact hcb, ⟨by simp only [List.length_cons]; have := HBm.out; simp only [List.length_cons] at this; omega⟩, ⟨by have := HLen.out; have := HBl.out; have := HBm.out; simp only [List.length_append, List.length_cons, List.length_nil] at *; omega⟩, ⟨by have := HEq.out; rw [show mergeP (x :: a) (y :: b) = x :: mergeP a (y :: b) by conv => lhs; unfold mergeP; rw [if_pos HLt.out]] at this; simpa using this⟩, ⟨HCd2.out⟩, ⟨by rw [HBm.out]; exact HCb.out⟩, ⟨HO9.out⟩, ⟨HB9.out⟩⟩
              · have HCd2 := Aside0.mk (show Kd.C k37 w4 _ a.length a by have := HCda.out; rw [if_neg hc1] at this; exact this)
                have hnb : na - 1 = a.length := by have := HBl.out; simp only [List.length_cons] at this; omega
                have hcn : na ≤ ca := by assumption
                have hn1 : 1 ≤ na := by have := HBl.out; simp only [List.length_cons] at this; omega
                have hc0 : ¬ ca - 1 = 0 := by omega
                have HOB := Aside0.mk (Kd.R_below HO.out HBC.out)
                have HWB := Aside0.mk (below_step HBr.out HBC.out)
                have hzb := HWB.out.size
                have hol : (o.length + 1) * 32 ≤ 140737488355328 := by have h1 := HLen.out; omega
                have HOL := Aside0.mk hol; clear hol
                go_wp2_with ((with_reducible refine gate_builtin (b := .append) (xs := #[.tmp 49, .tmp 53]) rfl ?_); at_builtin; refine app37 (w0 := w4) (base := w4.heap.size) (ok := fun _ => True) rfl (.tmp 49) (.tmp 53) rfl _ o x rfl rfl rfl (fun _ _ => trivial) HOB.out HWB.out hzb HOL.out ?_; intro v9 w9 ho9 hb9 hg9; have HO9 := Aside0.mk ho9; have HB9 := Aside0.mk hb9; clear ho9 hb9 hg9)
                go_roundg (a.length + nb)
                case measure => have := HM.out; have := HBl.out; have := HBm.out; simp only [List.length_cons] at *; omega
                case rel => exact ⟨a, y :: b, o ++ [x], _, _, _, cb, rfl, by rw [HBm.out], by omega, by rw [HBm.out]; exact hcb, ⟨by simp only [List.length_cons]; have := HBm.out; simp only [List.length_cons] at this; omega⟩, ⟨by have := HLen.out; have := HBl.out; have := HBm.out; simp only [List.length_append, List.length_cons, List.length_nil] at *; omega⟩, ⟨by have := HEq.out; rw [show mergeP (x :: a) (y :: b) = x :: mergeP a (y :: b) by conv => lhs; unfold mergeP; rw [if_pos HLt.out]] at this; simpa using this⟩, ⟨HCd2.out⟩, ⟨by rw [HBm.out]; exact HCb.out⟩, ⟨HO9.out⟩, ⟨HB9.out⟩⟩
            · have hcm : ¬ cmpP x y < 0 := fun h => hlt (hcLT.1 h)
              have HLt := Aside0.mk hlt; clear hlt hcLT
              go_wp2
              refine start_ (n := 13) (S := fun w' => w'.cell? adx = some (.int .i64 x.f0) ∧ w'.cell? ⟨adx.block, adx.off + 1, none⟩ = some (.int .i64 x.f1) ∧ w'.cell? ⟨adx.block, adx.off + 2, none⟩ = some (.string x.f2) ∧ w'.cell? ady = some (.int .i64 y.f0) ∧ w'.cell? ⟨ady.block, ady.off + 1, none⟩ = some (.int .i64 y.f1) ∧ w'.cell? ⟨ady.block, ady.off + 2, none⟩ = some (.string y.f2)) (ds := []) #[false, false, false, false, false, false, false, false, false, false, false, false, false] (by kernel_rfl) rfl rfl HHn.out (fun hHeld => ?_); refine with_tab tab20_9 (fun HT_ => ?_)
              have HBD := Aside0.mk (below_drew1 (Below.refl wC.heap.size wC))
              generalize wC.drew = wD at HBD hHeld ⊢
              refine pure_ (i := 0) (N := some 57) (v := ?_) (a' := ?_) #[true, false, false, false, false, false, false, false, false, false, false, false, false] rfl rfl (any_of HT_.out (by kernel_rfl)) (fun _ _ _ h => h) (Or.inl ⟨by rfl, ?_⟩) ?_ ?_
              rotate_left
              · intro w'
                go_simp
                with_reducible rfl
              rotate_left
              · simp only [Act.put, List.setIfInBounds_toArray, List.set_cons_zero, List.set_cons_succ, i64_w, i32_w]
                rfl
              refine pure_ (i := 1) (N := some 58) (v := ?_) (a' := ?_) #[true, true, false, false, false, false, false, false, false, false, false, false, false] rfl rfl (any_of HT_.out (by kernel_rfl)) (fun _ _ _ h => h) (Or.inl ⟨by rfl, ?_⟩) ?_ ?_
              rotate_left
              · intro w'
                go_simp
                with_reducible rfl
              rotate_left
              · simp only [Act.put, List.setIfInBounds_toArray, List.set_cons_zero, List.set_cons_succ, i64_w, i32_w]
                rfl
              refine pure_ (i := 2) (N := some 59) (v := ?_) (a' := ?_) #[true, true, true, false, false, false, false, false, false, false, false, false, false] rfl rfl (any_of HT_.out (by kernel_rfl)) (fun _ _ _ h => h) (Or.inl ⟨by rfl, ?_⟩) ?_ ?_
              rotate_left
              · intro w'
                go_simp
                with_reducible rfl
              rotate_left
              · simp only [Act.put, List.setIfInBounds_toArray, List.set_cons_zero, List.set_cons_succ, i64_w, i32_w]
                rfl
              refine pure_ (i := 3) (N := some 60) (v := ?_) (a' := ?_) #[true, true, true, true, false, false, false, false, false, false, false, false, false] rfl rfl (any_of HT_.out (by kernel_rfl)) (fun _ _ _ h => h) (Or.inl ⟨by rfl, ?_⟩) ?_ ?_
              rotate_left
              · intro w'
                go_simp
                with_reducible rfl
              rotate_left
              · simp only [Act.put, List.setIfInBounds_toArray, List.set_cons_zero, List.set_cons_succ, i64_w, i32_w]
                rfl
              refine pure_ (i := 4) (N := some 61) (v := ?_) (a' := ?_) #[true, true, true, true, true, false, false, false, false, false, false, false, false] rfl rfl (any_of HT_.out (by kernel_rfl)) (fun _ _ _ h => h) (Or.inl ⟨by rfl, ?_⟩) ?_ ?_
              rotate_left
              · intro w'
                go_simp
                with_reducible rfl
              rotate_left
              · simp only [Act.put, List.setIfInBounds_toArray, List.set_cons_zero, List.set_cons_succ, i64_w, i32_w]
                rfl
              refine pure_ (i := 5) (N := some 62) (v := ?_) (a' := ?_) #[true, true, true, true, true, true, false, false, false, false, false, false, false] rfl rfl (any_of HT_.out (by kernel_rfl)) (fun _ _ _ h => h) (Or.inl ⟨by rfl, ?_⟩) ?_ ?_
              rotate_left
              · intro w'
                go_simp
                with_reducible rfl
              rotate_left
              · simp only [Act.put, List.setIfInBounds_toArray, List.set_cons_zero, List.set_cons_succ, i64_w, i32_w]
                rfl
              refine pure_ (i := 7) (N := some 64) (v := ?_) (a' := ?_) #[true, true, true, true, true, true, false, true, false, false, false, false, false] rfl rfl (any_of HT_.out (by kernel_rfl)) (fun _ _ _ h => h) (Or.inl ⟨by rfl, ?_⟩) ?_ ?_
              rotate_left
              · intro w'
                go_simp
                with_reducible rfl
              rotate_left
              · simp only [Act.put, List.setIfInBounds_toArray, List.set_cons_zero, List.set_cons_succ, i64_w, i32_w]
                rfl
              refine pure_ (i := 8) (N := some 65) (v := ?_) (a' := ?_) #[true, true, true, true, true, true, false, true, true, false, false, false, false] rfl rfl (any_of HT_.out (by kernel_rfl)) (fun _ _ _ h => h) (Or.inl ⟨by rfl, ?_⟩) ?_ ?_
              rotate_left
              · intro w'
                go_simp
                with_reducible rfl
              rotate_left
              · simp only [Act.put, List.setIfInBounds_toArray, List.set_cons_zero, List.set_cons_succ, i64_w, i32_w]
                rfl
              refine take_ (i := 6) (N := some 63) (v := ?_) (a' := ?_) #[true, true, true, true, true, true, true, true, true, false, false, false, false] rfl rfl (take_of HT_.out (by kernel_rfl)) (fun _ _ _ h => h) (Or.inl ⟨by rfl, ?_⟩) hHeld ?_ ?_
              rotate_left
              · rintro w' ⟨s0, s1, s2, s3, s4, s5⟩
                go_simp
                with_reducible rfl
              rotate_left
              · simp only [Act.put, List.setIfInBounds_toArray, List.set_cons_zero, List.set_cons_succ, i64_w, i32_w]
                rfl
              refine take_ (i := 9) (N := some 66) (v := ?_) (a' := ?_) #[true, true, true, true, true, true, true, true, true, true, false, false, false] rfl rfl (take_of HT_.out (by kernel_rfl)) (fun _ _ _ h => h) (Or.inl ⟨by rfl, ?_⟩) hHeld ?_ ?_
              rotate_left
              · rintro w' ⟨s0, s1, s2, s3, s4, s5⟩
                go_simp
                with_reducible rfl
              rotate_left
              · simp only [Act.put, List.setIfInBounds_toArray, List.set_cons_zero, List.set_cons_succ, i64_w, i32_w]
                rfl
              refine one_ (i := 10) (N := some 67) #[true, true, true, true, true, true, true, true, true, true, true, false, false] rfl rfl (one_of HT_.out (by kernel_rfl)) (by decide) (fun K hK => ?_)
              refine goes_ Tryz.func78 (by kernel_rfl) rfl #[pv x, pv y] (by rfl) rfl rfl (by (try simp only [List.map_toArray, List.map_cons, List.map_nil]); first | done | rfl) ?_
              refine (vellumref17_Cmp.calls _ _ _ _ _ _ _ wD (cmp_eq x y)).mono ?_
              rintro e wE ⟨rfl, hb⟩
              refine ⟨_, rfl, ?_⟩
              have HBE' := Aside0.mk (below_step HBD.out hb); clear hb
              have hcl := fun (p : Addr) (u : Value) (h : wC.cell? p = some u) => (HBE'.out.cell (World.block_lt_of_cell? _ _ h)).trans h
              have hHn : _ ∧ _ ∧ _ ∧ _ ∧ _ ∧ _ := ⟨hcl _ _ HHn.out.1, hcl _ _ HHn.out.2.1, hcl _ _ HHn.out.2.2.1, hcl _ _ HHn.out.2.2.2.1, hcl _ _ HHn.out.2.2.2.2.1, hcl _ _ HHn.out.2.2.2.2.2⟩
              refine hK.out _ _ hHn (fun hHeld2 => ?_)
              clear hK K
              refine norm_ (a' := ?_) ?_ ?_
              rotate_left
              · show Act.put _ (some 67) _ = _
                simp only [Act.put, List.setIfInBounds_toArray, List.set_cons_zero, List.set_cons_succ, i64_w, i32_w]
                rfl
              refine pure_ (i := 11) (N := some 68) (v := ?_) (a' := ?_) #[true, true, true, true, true, true, true, true, true, true, true, true, false] rfl rfl (any_of HT_.out (by kernel_rfl)) (fun _ _ _ h => h) (Or.inl ⟨by rfl, ?_⟩) ?_ ?_
              rotate_left
              · intro w'
                go_simp
                with_reducible rfl
              rotate_left
              · simp only [Act.put, List.setIfInBounds_toArray, List.set_cons_zero, List.set_cons_succ, i64_w, i32_w]
                rfl
              refine pure_ (i := 12) (N := some 69) (v := ?_) (a' := ?_) #[true, true, true, true, true, true, true, true, true, true, true, true, true] rfl rfl (any_of HT_.out (by kernel_rfl)) (fun _ _ _ h => h) (Or.inl ⟨by rfl, ?_⟩) ?_ ?_
              rotate_left
              · intro w'
                go_simp
                with_reducible rfl
              rotate_left
              · simp only [Act.put, List.setIfInBounds_toArray, List.set_cons_zero, List.set_cons_succ, i64_w, i32_w]
                rfl
              refine done_ (done_of HT_.out (by kernel_rfl)) ?_
              have HHm := Aside0.mk hHn; clear hHn hcl hHeld hHeld2 HT_ HHn hcm
              have HBE := Aside0.mk (below_step HBC.out HBE'.out); clear HBC HBE'
              by_cases hxy : x = y
              · have hcm : cmpP x y = 0 := hcZ.2 hxy; clear hcZ
                have HXy := Aside0.mk hxy; clear hxy
                by_cases hc2 : ca = 1
                · have HCa2 := Aside0.mk (show Kd.C k37 w4 _ a.length a by have := HCda.out; rw [if_pos hc2] at this; exact this)
                  have hnb2 : na - 1 = a.length := by have := HBl.out; simp only [List.length_cons] at this; omega
                  have hcn2 : na ≤ ca := hca
                  have hn12 : 1 ≤ na := by have := HBl.out; simp only [List.length_cons] at this; omega
                  have hc02 : ca - 1 = 0 := by omega
                  have a0 := HHm.out.2.2.2.1; have a1 := HHm.out.2.2.2.2.1; have a2 := HHm.out.2.2.2.2.2
                  by_cases hc1 : cb = 1
                  · have HCd2 := Aside0.mk (show Kd.C k37 w4 _ b.length b by have := HCdb.out; rw [if_pos hc1] at this; exact this)
                    have hnb : nb - 1 = b.length := by have := HBm.out; simp only [List.length_cons] at this; omega
                    have hcn : nb ≤ cb := by assumption
                    have hn1 : 1 ≤ nb := by have := HBm.out; simp only [List.length_cons] at this; omega
                    have hc0 : cb - 1 = 0 := by omega
                    have HOB := Aside0.mk (Kd.R_below HO.out HBE.out)
                    have HWB := Aside0.mk (below_step HBr.out HBE.out)
                    have hzb := HWB.out.size
                    have hol : (o.length + 1) * 32 ≤ 140737488355328 := by have h1 := HLen.out; omega
                    have HOL := Aside0.mk hol; clear hol
                    go_wp2_with ((with_reducible refine gate_builtin (b := .append) (xs := #[.tmp 72, .tmp 76]) rfl ?_); at_builtin; refine app37 (w0 := w4) (base := w4.heap.size) (ok := fun _ => True) rfl (.tmp 72) (.tmp 76) rfl _ o y rfl rfl rfl (fun _ _ => trivial) HOB.out HWB.out hzb HOL.out ?_; intro v9 w9 ho9 hb9 hg9; have HO9 := Aside0.mk ho9; have HB9 := Aside0.mk hb9; clear ho9 hb9 hg9)
                    go_roundg (a.length + b.length)
                    case measure => have := HM.out; have := HBl.out; have := HBm.out; simp only [List.length_cons] at *; omega
                    case rel => exact ⟨a, b, o ++ [y], _, _, _, _, rfl, rfl, by omega, by omega, ⟨by simp⟩, ⟨by have := HLen.out; have := HBl.out; have := HBm.out; simp only [List.length_append, List.length_cons, List.length_nil] at *; omega⟩, ⟨by have := HEq.out; rw [show mergeP (x :: a) (y :: b) = y :: mergeP a b by conv => lhs; unfold mergeP; rw [if_neg HLt.out, if_pos HXy.out]] at this; simpa using this⟩, ⟨HCa2.out⟩, ⟨HCd2.out⟩, ⟨HO9.out⟩, ⟨HB9.out⟩⟩
                  · have HCd2 := Aside0.mk (show Kd.C k37 w4 _ b.length b by have := HCdb.out; rw [if_neg hc1] at this; exact this)
                    have hnb : nb - 1 = b.length := by have := HBm.out; simp only [List.length_cons] at this; omega
                    have hcn : nb ≤ cb := by assumption
                    have hn1 : 1 ≤ nb := by have := HBm.out; simp only [List.length_cons] at this; omega
                    have hc0 : ¬ cb - 1 = 0 := by omega
                    have HOB := Aside0.mk (Kd.R_below HO.out HBE.out)
                    have HWB := Aside0.mk (below_step HBr.out HBE.out)
                    have hzb := HWB.out.size
                    have hol : (o.length + 1) * 32 ≤ 140737488355328 := by have h1 := HLen.out; omega
                    have HOL := Aside0.mk hol; clear hol
                    go_wp2_with ((with_reducible refine gate_builtin (b := .append) (xs := #[.tmp 72, .tmp 76]) rfl ?_); at_builtin; refine app37 (w0 := w4) (base := w4.heap.size) (ok := fun _ => True) rfl (.tmp 72) (.tmp 76) rfl _ o y rfl rfl rfl (fun _ _ => trivial) HOB.out HWB.out hzb HOL.out ?_; intro v9 w9 ho9 hb9 hg9; have HO9 := Aside0.mk ho9; have HB9 := Aside0.mk hb9; clear ho9 hb9 hg9)
                    go_roundg (a.length + b.length)
                    case measure => have := HM.out; have := HBl.out; have := HBm.out; simp only [List.length_cons] at *; omega
                    case rel => exact ⟨a, b, o ++ [y], _, _, _, _, rfl, rfl, by omega, by omega, ⟨by simp⟩, ⟨by have := HLen.out; have := HBl.out; have := HBm.out; simp only [List.length_append, List.length_cons, List.length_nil] at *; omega⟩, ⟨by have := HEq.out; rw [show mergeP (x :: a) (y :: b) = y :: mergeP a b by conv => lhs; unfold mergeP; rw [if_neg HLt.out, if_pos HXy.out]] at this; simpa using this⟩, ⟨HCa2.out⟩, ⟨HCd2.out⟩, ⟨HO9.out⟩, ⟨HB9.out⟩⟩
                · have HCa2 := Aside0.mk (show Kd.C k37 w4 _ a.length a by have := HCda.out; rw [if_neg hc2] at this; exact this)
                  have hnb2 : na - 1 = a.length := by have := HBl.out; simp only [List.length_cons] at this; omega
                  have hcn2 : na ≤ ca := hca
                  have hn12 : 1 ≤ na := by have := HBl.out; simp only [List.length_cons] at this; omega
                  have hc02 : ¬ ca - 1 = 0 := by omega
                  have a0 := HHm.out.2.2.2.1; have a1 := HHm.out.2.2.2.2.1; have a2 := HHm.out.2.2.2.2.2
                  by_cases hc1 : cb = 1
                  · have HCd2 := Aside0.mk (show Kd.C k37 w4 _ b.length b by have := HCdb.out; rw [if_pos hc1] at this; exact this)
                    have hnb : nb - 1 = b.length := by have := HBm.out; simp only [List.length_cons] at this; omega
                    have hcn : nb ≤ cb := by assumption
                    have hn1 : 1 ≤ nb := by have := HBm.out; simp only [List.length_cons] at this; omega
                    have hc0 : cb - 1 = 0 := by omega
                    have HOB := Aside0.mk (Kd.R_below HO.out HBE.out)
                    have HWB := Aside0.mk (below_step HBr.out HBE.out)
                    have hzb := HWB.out.size
                    have hol : (o.length + 1) * 32 ≤ 140737488355328 := by have h1 := HLen.out; omega
                    have HOL := Aside0.mk hol; clear hol
                    go_wp2_with ((with_reducible refine gate_builtin (b := .append) (xs := #[.tmp 72, .tmp 76]) rfl ?_); at_builtin; refine app37 (w0 := w4) (base := w4.heap.size) (ok := fun _ => True) rfl (.tmp 72) (.tmp 76) rfl _ o y rfl rfl rfl (fun _ _ => trivial) HOB.out HWB.out hzb HOL.out ?_; intro v9 w9 ho9 hb9 hg9; have HO9 := Aside0.mk ho9; have HB9 := Aside0.mk hb9; clear ho9 hb9 hg9)
                    go_roundg (a.length + b.length)
                    case measure => have := HM.out; have := HBl.out; have := HBm.out; simp only [List.length_cons] at *; omega
                    case rel => exact ⟨a, b, o ++ [y], _, _, _, _, rfl, rfl, by omega, by omega, ⟨by simp⟩, ⟨by have := HLen.out; have := HBl.out; have := HBm.out; simp only [List.length_append, List.length_cons, List.length_nil] at *; omega⟩, ⟨by have := HEq.out; rw [show mergeP (x :: a) (y :: b) = y :: mergeP a b by conv => lhs; unfold mergeP; rw [if_neg HLt.out, if_pos HXy.out]] at this; simpa using this⟩, ⟨HCa2.out⟩, ⟨HCd2.out⟩, ⟨HO9.out⟩, ⟨HB9.out⟩⟩
                  · have HCd2 := Aside0.mk (show Kd.C k37 w4 _ b.length b by have := HCdb.out; rw [if_neg hc1] at this; exact this)
                    have hnb : nb - 1 = b.length := by have := HBm.out; simp only [List.length_cons] at this; omega
                    have hcn : nb ≤ cb := by assumption
                    have hn1 : 1 ≤ nb := by have := HBm.out; simp only [List.length_cons] at this; omega
                    have hc0 : ¬ cb - 1 = 0 := by omega
                    have HOB := Aside0.mk (Kd.R_below HO.out HBE.out)
                    have HWB := Aside0.mk (below_step HBr.out HBE.out)
                    have hzb := HWB.out.size
                    have hol : (o.length + 1) * 32 ≤ 140737488355328 := by have h1 := HLen.out; omega
                    have HOL := Aside0.mk hol; clear hol
                    go_wp2_with ((with_reducible refine gate_builtin (b := .append) (xs := #[.tmp 72, .tmp 76]) rfl ?_); at_builtin; refine app37 (w0 := w4) (base := w4.heap.size) (ok := fun _ => True) rfl (.tmp 72) (.tmp 76) rfl _ o y rfl rfl rfl (fun _ _ => trivial) HOB.out HWB.out hzb HOL.out ?_; intro v9 w9 ho9 hb9 hg9; have HO9 := Aside0.mk ho9; have HB9 := Aside0.mk hb9; clear ho9 hb9 hg9)
                    go_roundg (a.length + b.length)
                    case measure => have := HM.out; have := HBl.out; have := HBm.out; simp only [List.length_cons] at *; omega
                    case rel => exact ⟨a, b, o ++ [y], _, _, _, _, rfl, rfl, by omega, by omega, ⟨by simp⟩, ⟨by have := HLen.out; have := HBl.out; have := HBm.out; simp only [List.length_append, List.length_cons, List.length_nil] at *; omega⟩, ⟨by have := HEq.out; rw [show mergeP (x :: a) (y :: b) = y :: mergeP a b by conv => lhs; unfold mergeP; rw [if_neg HLt.out, if_pos HXy.out]] at this; simpa using this⟩, ⟨HCa2.out⟩, ⟨HCd2.out⟩, ⟨HO9.out⟩, ⟨HB9.out⟩⟩
              · have hcm : ¬ cmpP x y = 0 := fun h => hxy (hcZ.1 h)
                have hcb_ : (cmpP x y == 0) = false := by simpa using hcm
                have HXy := Aside0.mk hxy; clear hxy hcZ
                have a0 := HHm.out.2.2.2.1; have a1 := HHm.out.2.2.2.2.1; have a2 := HHm.out.2.2.2.2.2
                by_cases hc1 : cb = 1
                · have HCd2 := Aside0.mk (show Kd.C k37 w4 _ b.length b by have := HCdb.out; rw [if_pos hc1] at this; exact this)
                  have hnb : nb - 1 = b.length := by have := HBm.out; simp only [List.length_cons] at this; omega
                  have hcn : nb ≤ cb := by assumption
                  have hn1 : 1 ≤ nb := by have := HBm.out; simp only [List.length_cons] at this; omega
                  have hc0 : cb - 1 = 0 := by omega
                  have HOB := Aside0.mk (Kd.R_below HO.out HBE.out)
                  have HWB := Aside0.mk (below_step HBr.out HBE.out)
                  have hzb := HWB.out.size
                  have hol : (o.length + 1) * 32 ≤ 140737488355328 := by have h1 := HLen.out; omega
                  have HOL := Aside0.mk hol; clear hol
                  go_wp2_with ((with_reducible refine gate_builtin (b := .append) (xs := #[.tmp 72, .tmp 76]) rfl ?_); at_builtin; refine app37 (w0 := w4) (base := w4.heap.size) (ok := fun _ => True) rfl (.tmp 72) (.tmp 76) rfl _ o y rfl rfl rfl (fun _ _ => trivial) HOB.out HWB.out hzb HOL.out ?_; intro v9 w9 ho9 hb9 hg9; have HO9 := Aside0.mk ho9; have HB9 := Aside0.mk hb9; clear ho9 hb9 hg9)
                  go_roundg (na + b.length)
                  case measure => have := HM.out; have := HBl.out; have := HBm.out; simp only [List.length_cons] at *; omega
                  case rel => exact ⟨x :: a, b, o ++ [y], _, _, ca, _, by rw [HBl.out], rfl, by rw [HBl.out]; exact hca, by omega, ⟨by simp only [List.length_cons]; have := HBl.out; simp only [List.length_cons] at this; omega⟩, ⟨by have := HLen.out; have := HBl.out; have := HBm.out; simp only [List.length_append, List.length_cons, List.length_nil] at *; omega⟩, ⟨by have := HEq.out; rw [show mergeP (x :: a) (y :: b) = y :: mergeP (x :: a) b by conv => lhs; unfold mergeP; rw [if_neg HLt.out, if_neg HXy.out]] at this; simpa using this⟩, ⟨by rw [HBl.out]; exact HCa.out⟩, ⟨HCd2.out⟩, ⟨HO9.out⟩, ⟨HB9.out⟩⟩
                · have HCd2 := Aside0.mk (show Kd.C k37 w4 _ b.length b by have := HCdb.out; rw [if_neg hc1] at this; exact this)
                  have hnb : nb - 1 = b.length := by have := HBm.out; simp only [List.length_cons] at this; omega
                  have hcn : nb ≤ cb := by assumption
                  have hn1 : 1 ≤ nb := by have := HBm.out; simp only [List.length_cons] at this; omega
                  have hc0 : ¬ cb - 1 = 0 := by omega
                  have HOB := Aside0.mk (Kd.R_below HO.out HBE.out)
                  have HWB := Aside0.mk (below_step HBr.out HBE.out)
                  have hzb := HWB.out.size
                  have hol : (o.length + 1) * 32 ≤ 140737488355328 := by have h1 := HLen.out; omega
                  have HOL := Aside0.mk hol; clear hol
                  go_wp2_with ((with_reducible refine gate_builtin (b := .append) (xs := #[.tmp 72, .tmp 76]) rfl ?_); at_builtin; refine app37 (w0 := w4) (base := w4.heap.size) (ok := fun _ => True) rfl (.tmp 72) (.tmp 76) rfl _ o y rfl rfl rfl (fun _ _ => trivial) HOB.out HWB.out hzb HOL.out ?_; intro v9 w9 ho9 hb9 hg9; have HO9 := Aside0.mk ho9; have HB9 := Aside0.mk hb9; clear ho9 hb9 hg9)
                  go_roundg (na + b.length)
                  case measure => have := HM.out; have := HBl.out; have := HBm.out; simp only [List.length_cons] at *; omega
                  case rel => exact ⟨x :: a, b, o ++ [y], _, _, ca, _, by rw [HBl.out], rfl, by rw [HBl.out]; exact hca, by omega, ⟨by simp only [List.length_cons]; have := HBl.out; simp only [List.length_cons] at this; omega⟩, ⟨by have := HLen.out; have := HBl.out; have := HBm.out; simp only [List.length_append, List.length_cons, List.length_nil] at *; omega⟩, ⟨by have := HEq.out; rw [show mergeP (x :: a) (y :: b) = y :: mergeP (x :: a) b by conv => lhs; unfold mergeP; rw [if_neg HLt.out, if_neg HXy.out]] at this; simpa using this⟩, ⟨by rw [HBl.out]; exact HCa.out⟩, ⟨HCd2.out⟩, ⟨HO9.out⟩, ⟨HB9.out⟩⟩
theorem RowP_one {w : World} {g : Nat} {p : S37} (h : w.heap[g]? = some (pO p)) : RowP w g [p] := by
  intro i x hx j u hu
  cases i with
  | zero =>
    obtain rfl : p = x := by simpa using hx
    have hu' : (#[Value.int .i64 p.f0, .int .i64 p.f1, .string p.f2] : Array Value)[j]? = some u := by rw [← hu, ← Array.getElem?_toList]; rfl
    exact ⟨by rw [Nat.zero_mul, Nat.zero_add]; exact (cell_of h j).trans hu', frozen_of h _⟩
  | succ n => simp at hx
theorem C_one {w : World} {g : Nat} {p : S37} (h : w.heap[g]? = some (pO p)) : Kd.C k37 w (some ⟨g, 0, none⟩) 1 [p] := (RowP_one h).C (by simp)
def pA : S37 := ⟨0, -1, ⟨#[97]⟩⟩
theorem wfA : wfP pA := ⟨by decide, by decide, by decide⟩
theorem readsA : readsS [pA] [] pA = true := by unfold readsS; simp [(eqP_iff pA pA).2 rfl]
theorem leastA : leastS ([pA].filter (readsS [pA] [])) = some pA := by
  rw [List.filter_cons_of_pos (by exact readsA)]
  rfl
set_option maxHeartbeats 4000000 in
set_option maxRecDepth 100000 in
theorem awake_any (w : World) : Calls Tryz.prog 13 #[] w fun e w' => e = .returned (.bool true) ∧ Below w.heap.size w w' := by
  have hS : (⟨#[97]⟩ : ByteArray) = pA.f2 := rfl
  generalize hW : (((w.alloc (.cells #[.int .i64 0, .int .i64 (-1), .string ⟨#[97]⟩] 37)).alloc (.cells #[.slice (some ⟨w.heap.size, 0, none⟩) 1 1, .slice none 0 0, .slice none 0 0] 25)).alloc (.cells #[.int .i64 0, .int .i64 (-1), .string ⟨#[97]⟩] 37)).alloc (.cells #[.slice none 0 0, .slice none 0 0, .slice (some ⟨w.heap.size + 1 + 1, 0, none⟩) 1 1] 25) = W
  have hB : Below w.heap.size w W := by rw [← hW]; exact below_alloc (below_alloc (below_alloc (below_alloc (Below.refl _ _) _) _) _) _
  have b0 : W.heap[w.heap.size]? = some (pO pA) := by rw [← hW]; exact heap_old (heap_old (heap_old (heap_new _ _)))
  have b1 : W.heap[w.heap.size + 1]? = some (.cells #[.slice (some ⟨w.heap.size, 0, none⟩) 1 1, .slice none 0 0, .slice none 0 0] 25) := by rw [← hW]; have := heap_new (w.alloc (pO pA)) (.cells #[.slice (some ⟨w.heap.size, 0, none⟩) 1 1, .slice none 0 0, .slice none 0 0] 25); rw [size_new] at this; exact heap_old (heap_old this)
  have b2 : W.heap[w.heap.size + 1 + 1]? = some (pO pA) := by rw [← hW]; have := heap_new ((w.alloc (pO pA)).alloc (.cells #[.slice (some ⟨w.heap.size, 0, none⟩) 1 1, .slice none 0 0, .slice none 0 0] 25)) (pO pA); rw [size_new, size_new] at this; exact heap_old this
  have hcall : Calls Tryz.prog 17 #[.agg #[.slice (some ⟨w.heap.size, 0, none⟩) 1 1, .slice none 0 0, .slice none 0 0], .agg #[.slice none 0 0, .slice none 0 0, .slice (some ⟨w.heap.size + 1 + 1, 0, none⟩) 1 1]] W fun e w' => e = .returned (.tuple #[.agg #[.int .i64 0, .int .i64 (-1), .string ⟨#[97]⟩], .bool true]) ∧ Below W.heap.size W w' :=
    (clash_any [pA] [] [pA] (some ⟨w.heap.size, 0, none⟩) none none none none (some ⟨w.heap.size + 1 + 1, 0, none⟩) 0 0 0 1 0 0 0 0 1 W (C_one b0) (by decide) (Kd.R_reads' (Kd.R_nil k46 46 W 0 (fun _ => True))).2.2 (by decide) (C_one b2) (by decide) (by decide) (fun x hx => by obtain rfl := List.mem_singleton.1 hx; exact wfA) (fun x hx => by obtain rfl := List.mem_singleton.1 hx; exact wfA)).mono fun e w' h => ⟨by rw [h.1, leastA]; rfl, h.2⟩
  have hcall2 : ∀ V, Below W.heap.size W V → Calls Tryz.prog 16 #[.agg #[.slice (some ⟨w.heap.size, 0, none⟩) 1 1, .slice none 0 0, .slice none 0 0], .agg #[.int .i64 0, .int .i64 (-1), .string ⟨#[97]⟩]] V fun e w' => e = .returned (.bool true) ∧ Below V.heap.size V w' := fun V hV =>
    (reads_any [pA] [] (some ⟨w.heap.size, 0, none⟩) none none 0 1 0 0 pA V (C_one ((hV.block _ (lt_of b0)).trans b0)) (by decide) (Kd.R_reads' (Kd.R_nil k46 46 V 0 (fun _ => True))).2.2 (by decide) (by decide)).mono fun e w' h => ⟨by rw [h.1, readsA], h.2⟩
  have HC := Aside0.mk hcall
  have HC2 := Aside0.mk hcall2
  have HB := Aside0.mk hB
  have HW := Aside0.mk hW
  have D1 := Aside0.mk b1
  clear hcall hcall2 hB hW b0 b1 b2 hS
  go_enter Tryz.func13, Tryz.ntmps13
  go_wp2_with fail
  rw [HW.out]
  clear HW
  go_wp2_with (first | (go_at_call 17; refine HC.out.mono ?_; rintro e w5 ⟨rfl, hb⟩; have HB5 := Aside0.mk hb; have m1 : w5.cell? ⟨w.heap.size + 1, 0, none⟩ = some (.slice (some ⟨w.heap.size, 0, none⟩) 1 1) := (hb.cell (World.block_lt_of_cell? _ _ (cell_of D1.out 0))).trans (cell_of D1.out 0); have m2 : w5.cell? ⟨w.heap.size + 1, 1, none⟩ = some (.slice none 0 0) := (hb.cell (World.block_lt_of_cell? _ _ (cell_of D1.out 1))).trans (cell_of D1.out 1); have m3 : w5.cell? ⟨w.heap.size + 1, 2, none⟩ = some (.slice none 0 0) := (hb.cell (World.block_lt_of_cell? _ _ (cell_of D1.out 2))).trans (cell_of D1.out 2); have hlt : w.heap.size + 1 < w5.heap.size := Nat.lt_of_lt_of_le (lt_of D1.out) hb.size; clear hb) | (go_at_call 16; refine (HC2.out _ (below_alloc HB5.out _)).mono ?_; rintro e w6 ⟨rfl, hb6⟩))
  go_ret
  exact ⟨rfl, below_step HB.out (below_step (below_alloc HB5.out _) hb6)⟩
structure Ft where
  ps : List S37
  ss : List S46
  ws : List S37
def Ft.small (f : Ft) : Prop := f.ps.length * 32 ≤ 140737488351232 ∧ f.ss.length * 56 ≤ 140737488351232 ∧ f.ws.length * 32 ≤ 140737488351232
def Ft.wf (f : Ft) : Prop := (∀ x ∈ f.ps, wfP x) ∧ (∀ x ∈ f.ws, wfP x)
theorem Ft.small.n (f : Ft) (h : f.small) : f.ps.length < 4398046511104 ∧ f.ss.length < 2513169434916 ∧ f.ws.length < 4398046511104 := by
  obtain ⟨h0, h1, h2⟩ := h
  exact ⟨by omega, by omega, by omega⟩
structure FtR (w : World) (A0 A1 A2 : Option Addr) (c0 c1 c2 : Nat) (f : Ft) : Prop where
  h0 : Kd.C k37 w A0 f.ps.length f.ps
  l0 : f.ps.length ≤ c0
  h1 : Kd.C k46 w A1 f.ss.length f.ss
  l1 : f.ss.length ≤ c1
  h2 : Kd.C k37 w A2 f.ws.length f.ws
  l2 : f.ws.length ≤ c2
def fv (A0 A1 A2 : Option Addr) (c0 c1 c2 : Nat) (f : Ft) : Value := .agg #[.slice A0 f.ps.length c0, .slice A1 f.ss.length c1, .slice A2 f.ws.length c2]
def FtV (w : World) (v : Value) (f : Ft) : Prop := ∃ A0 A1 A2 c0 c1 c2, v = fv A0 A1 A2 c0 c1 c2 f ∧ FtR w A0 A1 A2 c0 c1 c2 f
theorem FtR.below {w w' : World} {A0 A1 A2 : Option Addr} {c0 c1 c2 : Nat} {f : Ft} (h : FtR w A0 A1 A2 c0 c1 c2 f) (hb : Below w.heap.size w w') : FtR w' A0 A1 A2 c0 c1 c2 f :=
  ⟨Kd.C_below h.h0 hb, h.l0, Kd.C_below h.h1 hb, h.l1, Kd.C_below h.h2 hb, h.l2⟩
theorem FtV.below {w w' : World} {v : Value} {f : Ft} (h : FtV w v f) (hb : Below w.heap.size w w') : FtV w' v f := by
  obtain ⟨A0, A1, A2, c0, c1, c2, e, h⟩ := h
  exact ⟨A0, A1, A2, c0, c1, c2, e, h.below hb⟩
theorem copyV {w : World} {v : Value} {f : Ft} (h : FtV w v f) (hs : f.small) : Calls Tryz.prog 8 #[v] w fun e w' => ∃ v', e = .returned v' ∧ FtV w' v' f ∧ Below w.heap.size w w' := by
  obtain ⟨A0, A1, A2, c0, c1, c2, rfl, h⟩ := h
  have hn := hs.n
  obtain ⟨k, hk⟩ := (copy_ev f.ps f.ss f.ws hn.1 hn.2.1 hn.2.2).ex
  refine (vellumref17_Copy.calls k A0 c0 f.ps A1 c1 f.ss A2 c2 f.ws _ _ _ w h.h0 h.l0 h.h1 h.l1 h.h2 h.l2 hk).mono ?_
  rintro e w' ⟨v0, v1, v2, rfl, r0, r1, r2, hb⟩
  obtain ⟨B0, d0, rfl⟩ := Kd.R_slice r0
  obtain ⟨B1, d1, rfl⟩ := Kd.R_slice r1
  obtain ⟨B2, d2, rfl⟩ := Kd.R_slice r2
  exact ⟨_, rfl, ⟨B0, B1, B2, d0, d1, d2, rfl, (Kd.R_reads' r0).2.2, (Kd.R_reads' r0).2.1, (Kd.R_reads' r1).2.2, (Kd.R_reads' r1).2.1, (Kd.R_reads' r2).2.2, (Kd.R_reads' r2).2.1⟩, hb⟩
theorem sameV {w : World} {v u : Value} {f : Ft} (h : FtV w v f) (h' : FtV w u f) (hs : f.small) : Calls Tryz.prog 10 #[v, u] w fun e w' => e = .returned (.bool true) ∧ Below w.heap.size w w' := by
  obtain ⟨A0, A1, A2, c0, c1, c2, rfl, h⟩ := h
  obtain ⟨B0, B1, B2, d0, d1, d2, rfl, h'⟩ := h'
  have hn := hs.n
  obtain ⟨k, hk⟩ := (same_ev f.ps f.ss f.ws hn.1 hn.2.1 hn.2.2).ex
  exact vellumref17_Same.calls k A0 c0 f.ps A1 c1 f.ss A2 c2 f.ws B0 d0 f.ps B1 d1 f.ss B2 d2 f.ws true w h.h0 h.l0 h.h1 h.l1 h.h2 h.l2 h'.h0 h'.l0 h'.h1 h'.l1 h'.h2 h'.l2 hk
theorem C_ints {W : World} {g : Nat} {l : List Int} (h : W.heap[g]? = some (.cells (l.map (Value.int .i64)).toArray 3 (0, 0))) (hl : l.length ≤ 9223372036854775807 := by simp) : Kd.C (Kd.int .i64) W (some ⟨g, 0, none⟩) l.length l := by
  refine ⟨rfl, hl, fun _ => ⟨_, rfl, fun j p hp => ⟨[.int .i64 p], rfl, rfl, fun i u hu => ?_⟩⟩⟩
  have hi : i = 0 := by
    have := (List.getElem?_eq_some_iff.1 hu).1
    simpa using this
  subst hi
  obtain rfl : Value.int .i64 p = u := by simpa using hu
  have e : (⟨g, 0, none⟩ : Addr).add (j * (Kd.int .i64).sz + 0) = ⟨g, j, none⟩ := by
    show (⟨g, 0, none⟩ : Addr).add (j * 1 + 0) = _
    unfold Addr.add
    split <;> simp_all
  rw [e]
  refine (cell_of h j).trans ?_
  simp [hp]
structure SPl where
  f0 : Int
  f1 : Int
def cmpL (a b : SPl) : Int := if a.f0 = b.f0 then (if a.f1 = b.f1 then 0 else if a.f1 < b.f1 then -1 else 1) else if a.f0 < b.f0 then -1 else 1
theorem or2_ev (a b : Int) : Ev (fun k => cmp_Or_int.f k [a, b]) (if a = 0 then b else a) := by
  refine Ev.from_ 3 (fun k => ?_)
  have e1 : wrap64 (0 + 1) = 1 := wrap64_id (by decide) (by decide)
  have e2 : wrap64 (1 + 1) = 2 := wrap64_id (by decide) (by decide)
  have r0 : rd [a, b] 0 = a := rfl
  have r1 : rd [a, b] 1 = b := rfl
  unfold cmp_Or_int.f
  have hl : (([a, b] : List Int).length : Int) = 2 := rfl
  rw [hl, cmp_Or_int.l0, r0, e1, cmp_Or_int.l0, r1, e2, cmp_Or_int.l0, hl]
  by_cases ha : a = 0
  · by_cases hb : b = 0 <;> simp [ha, hb]
  · simp [ha]
theorem before_gr_spec (a b : S37) : cmpP a b = if (if a.f0 < b.f0 then (-1 : Int) else if b.f0 < a.f0 then 1 else 0) = 0 then (if (if a.f1 < b.f1 then (-1 : Int) else if b.f1 < a.f1 then 1 else 0) = 0 then Lib.compareBytes a.f2.data.toList b.f2.data.toList else (if a.f1 < b.f1 then (-1 : Int) else if b.f1 < a.f1 then 1 else 0)) else (if a.f0 < b.f0 then (-1 : Int) else if b.f0 < a.f0 then 1 else 0) := by
  rw [cmpB_eq]
  unfold cmpP bs
  repeat' split
  all_goals first | rfl | omega
theorem place_gr_spec (a b : SPl) : cmpL a b = if (if a.f0 < b.f0 then (-1 : Int) else if b.f0 < a.f0 then 1 else 0) = 0 then (if a.f1 < b.f1 then (-1 : Int) else if b.f1 < a.f1 then 1 else 0) else (if a.f0 < b.f0 then (-1 : Int) else if b.f0 < a.f0 then 1 else 0) := by
  unfold cmpL
  repeat' split
  all_goals first | rfl | omega
def T64_1 : Bool × List (List Nat × List Nat) := (true, [([], []), ([0], [0]), ([], []), ([2], [2]), ([1, 3], [1, 3]), ([], []), ([5], [5]), ([], []), ([7], [7]), ([6, 8, 4], [6, 8]), ([], []), ([10], [10]), ([], []), ([12], [12]), ([11, 13, 9], [11, 13]), ([4, 9, 14], [4, 9, 14]), ([15, 14], [15]), ([16, 16, 0, 1, 2, 3, 4, 5, 6, 7, 8, 9, 10, 11, 12, 13, 14, 15, 16], [16])])
theorem tab64_1 : rtab .any (opsOf Tryz.f64 1) = T64_1 := by kernel_rfl
def T48_1 : Bool × List (List Nat × List Nat) := (true, [([], []), ([0], [0]), ([], []), ([2], [2]), ([1, 3], [1, 3]), ([], []), ([5], [5]), ([], []), ([7], [7]), ([6, 8, 4], [6, 8]), ([4, 9], [4, 9]), ([10, 9], [10]), ([11, 11, 0, 1, 2, 3, 4, 5, 6, 7, 8, 9, 10, 11], [11])])
theorem tab48_1 : rtab .any (opsOf Tryz.f48 1) = T48_1 := by kernel_rfl
set_option maxHeartbeats 4000000 in
set_option maxRecDepth 100000 in
theorem before_gr (a b : S37) (w : World) : Calls Tryz.prog 64 #[.agg #[.int .i64 a.f0, .int .i64 a.f1, .string a.f2], .agg #[.int .i64 b.f0, .int .i64 b.f1, .string b.f2]] w fun e w' => e = .returned (.int .i64 (cmpP a b)) ∧ Gr w w' := by
  obtain ⟨v0, hv0⟩ : ∃ v : Int, v = (if a.f0 < b.f0 then -1 else if b.f0 < a.f0 then 1 else 0) := ⟨_, rfl⟩
  obtain ⟨v1, hv1⟩ : ∃ v : Int, v = (if a.f1 < b.f1 then -1 else if b.f1 < a.f1 then 1 else 0) := ⟨_, rfl⟩
  obtain ⟨v2, hv2⟩ : ∃ v : Int, v = (Lib.compareBytes a.f2.data.toList b.f2.data.toList) := ⟨_, rfl⟩
  obtain ⟨k, hk⟩ : ∃ k, cmp_Or_int.f k [v0, v1, v2] = some (cmpP a b) := by rw [before_gr_spec, hv0, hv1, hv2]; exact (or3_ev _ _ _).ex
  have HV0 := Aside0.mk hv0
  have HV1 := Aside0.mk hv1
  have HV2 := Aside0.mk hv2
  clear hv0 hv1 hv2
  generalize hW : (w.alloc (.cells #[.int .i64 a.f0, .int .i64 a.f1, .string a.f2] 37)).alloc (.cells #[.int .i64 b.f0, .int .i64 b.f1, .string b.f2] 37) = w1
  have hG : Gr w w1 := by rw [← hW]; exact ((Gr.refl w).alloc _).alloc _
  have b0 : w1.heap[w.heap.size]? = some (.cells #[.int .i64 a.f0, .int .i64 a.f1, .string a.f2] 37) := by rw [← hW]; exact heap_old (heap_new _ _)
  have b1 : w1.heap[w.heap.size + 1]? = some (.cells #[.int .i64 b.f0, .int .i64 b.f1, .string b.f2] 37) := by rw [← hW]; have := heap_new (w.alloc (.cells #[.int .i64 a.f0, .int .i64 a.f1, .string a.f2] 37)) (.cells #[.int .i64 b.f0, .int .i64 b.f1, .string b.f2] 37); rw [size_new] at this; exact this
  have HW := Aside0.mk hW
  have D0 := Aside0.mk b0
  have D1 := Aside0.mk b1
  have HG := Aside0.mk hG
  have HK := Aside0.mk hk
  clear hW b0 b1 hG hk
  go_enter Tryz.func64, Tryz.ntmps64
  go_wp2
  rw [HW.out]
  clear HW
  refine start_ (n := 18) (S := fun w' => w'.cell? ⟨w.heap.size, 0, none⟩ = some (.int .i64 a.f0) ∧ w'.cell? ⟨w.heap.size, 1, none⟩ = some (.int .i64 a.f1) ∧ w'.cell? ⟨w.heap.size, 2, none⟩ = some (.string a.f2) ∧ w'.cell? ⟨w.heap.size + 1, 0, none⟩ = some (.int .i64 b.f0) ∧ w'.cell? ⟨w.heap.size + 1, 1, none⟩ = some (.int .i64 b.f1) ∧ w'.cell? ⟨w.heap.size + 1, 2, none⟩ = some (.string b.f2)) (ds := []) #[false, false, false, false, false, false, false, false, false, false, false, false, false, false, false, false, false, false] (by kernel_rfl) rfl rfl ⟨cell_of D0.out 0, cell_of D0.out 1, cell_of D0.out 2, cell_of D1.out 0, cell_of D1.out 1, cell_of D1.out 2⟩ (fun hHeld => ?_); refine with_tab tab64_1 (fun HT_ => ?_)
  have hbD := below_drew1 (Below.refl w1.heap.size w1)
  have hG2 := HG.out.drew
  generalize w1.drew = w2 at hbD hHeld hG2 ⊢
  have D0_1 := Aside0.mk ((hbD.block _ (lt_of D0.out)).trans D0.out)
  have D1_1 := Aside0.mk ((hbD.block _ (lt_of D1.out)).trans D1.out)
  have HG_1 := Aside0.mk (hG2)
  clear hbD hG2
  refine pure_ (i := 0) (N := some 5) (v := ?_) (a' := ?_) #[true, false, false, false, false, false, false, false, false, false, false, false, false, false, false, false, false, false] rfl rfl (any_of HT_.out (by kernel_rfl)) (fun _ _ _ h => h) (Or.inl ⟨by rfl, ?_⟩) ?_ ?_
  rotate_left
  · intro w'
    go_simp
    with_reducible rfl
  rotate_left
  · simp only [Act.put, List.setIfInBounds_toArray, List.set_cons_zero, List.set_cons_succ, i64_w, i32_w]
    rfl
  refine pure_ (i := 2) (N := some 7) (v := ?_) (a' := ?_) #[true, false, true, false, false, false, false, false, false, false, false, false, false, false, false, false, false, false] rfl rfl (any_of HT_.out (by kernel_rfl)) (fun _ _ _ h => h) (Or.inl ⟨by rfl, ?_⟩) ?_ ?_
  rotate_left
  · intro w'
    go_simp
    with_reducible rfl
  rotate_left
  · simp only [Act.put, List.setIfInBounds_toArray, List.set_cons_zero, List.set_cons_succ, i64_w, i32_w]
    rfl
  refine pure_ (i := 5) (N := some 10) (v := ?_) (a' := ?_) #[true, false, true, false, false, true, false, false, false, false, false, false, false, false, false, false, false, false] rfl rfl (any_of HT_.out (by kernel_rfl)) (fun _ _ _ h => h) (Or.inl ⟨by rfl, ?_⟩) ?_ ?_
  rotate_left
  · intro w'
    go_simp
    with_reducible rfl
  rotate_left
  · simp only [Act.put, List.setIfInBounds_toArray, List.set_cons_zero, List.set_cons_succ, i64_w, i32_w]
    rfl
  refine pure_ (i := 7) (N := some 12) (v := ?_) (a' := ?_) #[true, false, true, false, false, true, false, true, false, false, false, false, false, false, false, false, false, false] rfl rfl (any_of HT_.out (by kernel_rfl)) (fun _ _ _ h => h) (Or.inl ⟨by rfl, ?_⟩) ?_ ?_
  rotate_left
  · intro w'
    go_simp
    with_reducible rfl
  rotate_left
  · simp only [Act.put, List.setIfInBounds_toArray, List.set_cons_zero, List.set_cons_succ, i64_w, i32_w]
    rfl
  refine pure_ (i := 10) (N := some 15) (v := ?_) (a' := ?_) #[true, false, true, false, false, true, false, true, false, false, true, false, false, false, false, false, false, false] rfl rfl (any_of HT_.out (by kernel_rfl)) (fun _ _ _ h => h) (Or.inl ⟨by rfl, ?_⟩) ?_ ?_
  rotate_left
  · intro w'
    go_simp
    with_reducible rfl
  rotate_left
  · simp only [Act.put, List.setIfInBounds_toArray, List.set_cons_zero, List.set_cons_succ, i64_w, i32_w]
    rfl
  refine pure_ (i := 12) (N := some 17) (v := ?_) (a' := ?_) #[true, false, true, false, false, true, false, true, false, false, true, false, true, false, false, false, false, false] rfl rfl (any_of HT_.out (by kernel_rfl)) (fun _ _ _ h => h) (Or.inl ⟨by rfl, ?_⟩) ?_ ?_
  rotate_left
  · intro w'
    go_simp
    with_reducible rfl
  rotate_left
  · simp only [Act.put, List.setIfInBounds_toArray, List.set_cons_zero, List.set_cons_succ, i64_w, i32_w]
    rfl
  refine take_ (i := 1) (N := some 6) (v := ?_) (a' := ?_) #[true, true, true, false, false, true, false, true, false, false, true, false, true, false, false, false, false, false] rfl rfl (take_of HT_.out (by kernel_rfl)) (fun _ _ _ h => h) (Or.inl ⟨by rfl, ?_⟩) hHeld ?_ ?_
  rotate_left
  · rintro w' ⟨s0, s1, s2, s3, s4, s5⟩
    go_simp
    with_reducible rfl
  rotate_left
  · simp only [Act.put, List.setIfInBounds_toArray, List.set_cons_zero, List.set_cons_succ, i64_w, i32_w]
    rfl
  refine take_ (i := 3) (N := some 8) (v := ?_) (a' := ?_) #[true, true, true, true, false, true, false, true, false, false, true, false, true, false, false, false, false, false] rfl rfl (take_of HT_.out (by kernel_rfl)) (fun _ _ _ h => h) (Or.inl ⟨by rfl, ?_⟩) hHeld ?_ ?_
  rotate_left
  · rintro w' ⟨s0, s1, s2, s3, s4, s5⟩
    go_simp
    with_reducible rfl
  rotate_left
  · simp only [Act.put, List.setIfInBounds_toArray, List.set_cons_zero, List.set_cons_succ, i64_w, i32_w]
    rfl
  refine take_ (i := 6) (N := some 11) (v := ?_) (a' := ?_) #[true, true, true, true, false, true, true, true, false, false, true, false, true, false, false, false, false, false] rfl rfl (take_of HT_.out (by kernel_rfl)) (fun _ _ _ h => h) (Or.inl ⟨by rfl, ?_⟩) hHeld ?_ ?_
  rotate_left
  · rintro w' ⟨s0, s1, s2, s3, s4, s5⟩
    go_simp
    with_reducible rfl
  rotate_left
  · simp only [Act.put, List.setIfInBounds_toArray, List.set_cons_zero, List.set_cons_succ, i64_w, i32_w]
    rfl
  refine take_ (i := 8) (N := some 13) (v := ?_) (a' := ?_) #[true, true, true, true, false, true, true, true, true, false, true, false, true, false, false, false, false, false] rfl rfl (take_of HT_.out (by kernel_rfl)) (fun _ _ _ h => h) (Or.inl ⟨by rfl, ?_⟩) hHeld ?_ ?_
  rotate_left
  · rintro w' ⟨s0, s1, s2, s3, s4, s5⟩
    go_simp
    with_reducible rfl
  rotate_left
  · simp only [Act.put, List.setIfInBounds_toArray, List.set_cons_zero, List.set_cons_succ, i64_w, i32_w]
    rfl
  refine take_ (i := 11) (N := some 16) (v := ?_) (a' := ?_) #[true, true, true, true, false, true, true, true, true, false, true, true, true, false, false, false, false, false] rfl rfl (take_of HT_.out (by kernel_rfl)) (fun _ _ _ h => h) (Or.inl ⟨by rfl, ?_⟩) hHeld ?_ ?_
  rotate_left
  · rintro w' ⟨s0, s1, s2, s3, s4, s5⟩
    go_simp
    with_reducible rfl
  rotate_left
  · simp only [Act.put, List.setIfInBounds_toArray, List.set_cons_zero, List.set_cons_succ, i64_w, i32_w]
    rfl
  refine take_ (i := 13) (N := some 18) (v := ?_) (a' := ?_) #[true, true, true, true, false, true, true, true, true, false, true, true, true, true, false, false, false, false] rfl rfl (take_of HT_.out (by kernel_rfl)) (fun _ _ _ h => h) (Or.inl ⟨by rfl, ?_⟩) hHeld ?_ ?_
  rotate_left
  · rintro w' ⟨s0, s1, s2, s3, s4, s5⟩
    go_simp
    with_reducible rfl
  rotate_left
  · simp only [Act.put, List.setIfInBounds_toArray, List.set_cons_zero, List.set_cons_succ, i64_w, i32_w]
    rfl
  refine one_ (i := 4) (N := some 9) #[true, true, true, true, true, true, true, true, true, false, true, true, true, true, false, false, false, false] rfl rfl (one_of HT_.out (by kernel_rfl)) (by decide) (fun K hK => ?_)
  refine goes_ Tryz.func50 (by kernel_rfl) rfl #[.int .i64 a.f0, .int .i64 b.f0] (by rfl) rfl rfl (by (try simp only [List.map_toArray, List.map_cons, List.map_nil]); first | done | rfl) ?_
  refine (cmp_Compare_int.calls _ _ v0 _ (by rw [HV0.out]; exact cmpI_eq a.f0 b.f0)).mono ?_
  rintro e wc4 ⟨rfl, hd⟩
  refine ⟨_, rfl, ?_⟩
  have D0_2 := Aside0.mk ((hd.below.block _ (lt_of D0_1.out)).trans D0_1.out)
  have D1_2 := Aside0.mk ((hd.below.block _ (lt_of D1_1.out)).trans D1_1.out)
  have HG_2 := Aside0.mk (Gr.drawn HG_1.out hd)
  clear hd hHeld
  refine hK.out _ _ ⟨cell_of D0_2.out 0, cell_of D0_2.out 1, cell_of D0_2.out 2, cell_of D1_2.out 0, cell_of D1_2.out 1, cell_of D1_2.out 2⟩ (fun hHeld => ?_)
  clear hK K
  refine norm_ (a' := ?_) ?_ ?_
  rotate_left
  · show Act.put _ (some 9) _ = _
    simp only [Act.put, List.setIfInBounds_toArray, List.set_cons_zero, List.set_cons_succ, i64_w, i32_w]
    rfl
  refine one_ (i := 9) (N := some 14) #[true, true, true, true, true, true, true, true, true, true, true, true, true, true, false, false, false, false] rfl rfl (one_of HT_.out (by kernel_rfl)) (by decide) (fun K hK => ?_)
  refine goes_ Tryz.func50 (by kernel_rfl) rfl #[.int .i64 a.f1, .int .i64 b.f1] (by rfl) rfl rfl (by (try simp only [List.map_toArray, List.map_cons, List.map_nil]); first | done | rfl) ?_
  refine (cmp_Compare_int.calls _ _ v1 _ (by rw [HV1.out]; exact cmpI_eq a.f1 b.f1)).mono ?_
  rintro e wc9 ⟨rfl, hd⟩
  refine ⟨_, rfl, ?_⟩
  have D0_3 := Aside0.mk ((hd.below.block _ (lt_of D0_2.out)).trans D0_2.out)
  have D1_3 := Aside0.mk ((hd.below.block _ (lt_of D1_2.out)).trans D1_2.out)
  have HG_3 := Aside0.mk (Gr.drawn HG_2.out hd)
  clear hd hHeld
  refine hK.out _ _ ⟨cell_of D0_3.out 0, cell_of D0_3.out 1, cell_of D0_3.out 2, cell_of D1_3.out 0, cell_of D1_3.out 1, cell_of D1_3.out 2⟩ (fun hHeld => ?_)
  clear hK K
  refine norm_ (a' := ?_) ?_ ?_
  rotate_left
  · show Act.put _ (some 14) _ = _
    simp only [Act.put, List.setIfInBounds_toArray, List.set_cons_zero, List.set_cons_succ, i64_w, i32_w]
    rfl
  refine one_ (i := 14) (N := some 19) #[true, true, true, true, true, true, true, true, true, true, true, true, true, true, true, false, false, false] rfl rfl (one_of HT_.out (by kernel_rfl)) (by decide) (fun K hK => ?_)
  refine goes_ Tryz.func74 (by kernel_rfl) rfl #[.string a.f2, .string b.f2] (by rfl) rfl rfl (by (try simp only [List.map_toArray, List.map_cons, List.map_nil]); first | done | rfl) ?_
  refine (strings_Compare.calls _ _ v2 _ (by rw [HV2.out]; rfl)).mono ?_
  rintro e wc14 ⟨rfl, hd⟩
  refine ⟨_, rfl, ?_⟩
  have D0_4 := Aside0.mk ((hd.below.block _ (lt_of D0_3.out)).trans D0_3.out)
  have D1_4 := Aside0.mk ((hd.below.block _ (lt_of D1_3.out)).trans D1_3.out)
  have HG_4 := Aside0.mk (Gr.drawn HG_3.out hd)
  clear hd hHeld
  refine hK.out _ _ ⟨cell_of D0_4.out 0, cell_of D0_4.out 1, cell_of D0_4.out 2, cell_of D1_4.out 0, cell_of D1_4.out 1, cell_of D1_4.out 2⟩ (fun hHeld => ?_)
  clear hK K
  refine norm_ (a' := ?_) ?_ ?_
  rotate_left
  · show Act.put _ (some 19) _ = _
    simp only [Act.put, List.setIfInBounds_toArray, List.set_cons_zero, List.set_cons_succ, i64_w, i32_w]
    rfl
  refine one_ (i := 15) (N := some 20) #[true, true, true, true, true, true, true, true, true, true, true, true, true, true, true, true, false, false] rfl rfl (one_of HT_.out (by kernel_rfl)) (by decide) (fun K hK => ?_)
  have hbA := below_alloc (Below.refl wc14.heap.size wc14) (.cells #[.int .i64 v0, .int .i64 v1, .int .i64 v2] 3)
  have hNw := heap_new wc14 (.cells #[.int .i64 v0, .int .i64 v1, .int .i64 v2] 3)
  have hGA := Gr.alloc HG_4.out (.cells #[.int .i64 v0, .int .i64 v1, .int .i64 v2] 3)
  refine value_ (w1 := ?_) (v := ?_) (by rfl) rfl ?_ ?_
  rotate_left
  rotate_left
  · go_simp
    constructor
    · rfl
    · rfl
  show K _ (wc14.alloc (.cells #[.int .i64 v0, .int .i64 v1, .int .i64 v2] 3))
  generalize hbx : wc14.heap.size = bx at hNw ⊢
  have HBX := Aside0.mk hbx; clear hbx
  generalize wc14.alloc (.cells #[.int .i64 v0, .int .i64 v1, .int .i64 v2] 3) = wa at hNw hbA hGA ⊢
  have D0_5 := Aside0.mk ((hbA.block _ (lt_of D0_4.out)).trans D0_4.out)
  have D1_5 := Aside0.mk ((hbA.block _ (lt_of D1_4.out)).trans D1_4.out)
  have HG_5 := Aside0.mk (hGA)
  have HNw := Aside0.mk hNw
  clear hbA hGA hHeld hNw
  refine hK.out _ _ ⟨cell_of D0_5.out 0, cell_of D0_5.out 1, cell_of D0_5.out 2, cell_of D1_5.out 0, cell_of D1_5.out 1, cell_of D1_5.out 2⟩ (fun hHeld => ?_)
  clear hK K
  refine norm_ (a' := ?_) ?_ ?_
  rotate_left
  · show Act.put _ (some 20) _ = _
    simp only [Act.put, List.setIfInBounds_toArray, List.set_cons_zero, List.set_cons_succ, i64_w, i32_w]
    rfl
  refine one_ (i := 16) (N := some 21) #[true, true, true, true, true, true, true, true, true, true, true, true, true, true, true, true, true, false] rfl rfl (one_of HT_.out (by kernel_rfl)) (by decide) (fun K hK => ?_)
  refine goes_ Tryz.func49 (by kernel_rfl) rfl #[.slice (some ⟨bx, 0, none⟩) 3 3] (by rfl) rfl rfl (by (try simp only [List.map_toArray, List.map_cons, List.map_nil]); first | done | rfl) ?_
  refine (cmp_Or_int.calls k (some ⟨bx, 0, none⟩) 3 [v0, v1, v2] _ wa (C_ints (l := [v0, v1, v2]) HNw.out) (Nat.le_refl _) HK.out).mono ?_
  rintro e wo ⟨rfl, hd⟩
  refine ⟨_, rfl, ?_⟩
  have D0_6 := Aside0.mk ((hd.below.block _ (lt_of D0_5.out)).trans D0_5.out)
  have D1_6 := Aside0.mk ((hd.below.block _ (lt_of D1_5.out)).trans D1_5.out)
  have HG_6 := Aside0.mk (Gr.drawn HG_5.out hd)
  clear hd hHeld
  refine hK.out _ _ ⟨cell_of D0_6.out 0, cell_of D0_6.out 1, cell_of D0_6.out 2, cell_of D1_6.out 0, cell_of D1_6.out 1, cell_of D1_6.out 2⟩ (fun hHeld => ?_)
  clear hK K
  refine norm_ (a' := ?_) ?_ ?_
  rotate_left
  · show Act.put _ (some 21) _ = _
    simp only [Act.put, List.setIfInBounds_toArray, List.set_cons_zero, List.set_cons_succ, i64_w, i32_w]
    rfl
  refine pure_ (i := 17) (N := some 4) (v := ?_) (a' := ?_) #[true, true, true, true, true, true, true, true, true, true, true, true, true, true, true, true, true, true] rfl rfl (any_of HT_.out (by kernel_rfl)) (fun _ _ _ h => h) (Or.inl ⟨by rfl, ?_⟩) ?_ ?_
  rotate_left
  · intro w'
    go_simp
    with_reducible rfl
  rotate_left
  · simp only [Act.put, List.setIfInBounds_toArray, List.set_cons_zero, List.set_cons_succ, i64_w, i32_w]
    rfl
  refine done_ (done_of HT_.out (by kernel_rfl)) ?_
  clear hHeld HT_
  go_wp2
  go_ret
  exact ⟨rfl, HG_6.out⟩
set_option maxHeartbeats 4000000 in
set_option maxRecDepth 100000 in
theorem place_gr (a b : SPl) (w : World) : Calls Tryz.prog 48 #[.agg #[.int .i64 a.f0, .int .i64 a.f1], .agg #[.int .i64 b.f0, .int .i64 b.f1]] w fun e w' => e = .returned (.int .i64 (cmpL a b)) ∧ Gr w w' := by
  obtain ⟨v0, hv0⟩ : ∃ v : Int, v = (if a.f0 < b.f0 then -1 else if b.f0 < a.f0 then 1 else 0) := ⟨_, rfl⟩
  obtain ⟨v1, hv1⟩ : ∃ v : Int, v = (if a.f1 < b.f1 then -1 else if b.f1 < a.f1 then 1 else 0) := ⟨_, rfl⟩
  obtain ⟨k, hk⟩ : ∃ k, cmp_Or_int.f k [v0, v1] = some (cmpL a b) := by rw [place_gr_spec, hv0, hv1]; exact (or2_ev _ _).ex
  have HV0 := Aside0.mk hv0
  have HV1 := Aside0.mk hv1
  clear hv0 hv1
  generalize hW : (w.alloc (.cells #[.int .i64 a.f0, .int .i64 a.f1] 69)).alloc (.cells #[.int .i64 b.f0, .int .i64 b.f1] 69) = w1
  have hG : Gr w w1 := by rw [← hW]; exact ((Gr.refl w).alloc _).alloc _
  have b0 : w1.heap[w.heap.size]? = some (.cells #[.int .i64 a.f0, .int .i64 a.f1] 69) := by rw [← hW]; exact heap_old (heap_new _ _)
  have b1 : w1.heap[w.heap.size + 1]? = some (.cells #[.int .i64 b.f0, .int .i64 b.f1] 69) := by rw [← hW]; have := heap_new (w.alloc (.cells #[.int .i64 a.f0, .int .i64 a.f1] 69)) (.cells #[.int .i64 b.f0, .int .i64 b.f1] 69); rw [size_new] at this; exact this
  have HW := Aside0.mk hW
  have D0 := Aside0.mk b0
  have D1 := Aside0.mk b1
  have HG := Aside0.mk hG
  have HK := Aside0.mk hk
  clear hW b0 b1 hG hk
  go_enter Tryz.func48, Tryz.ntmps48
  go_wp2
  rw [HW.out]
  clear HW
  refine start_ (n := 13) (S := fun w' => w'.cell? ⟨w.heap.size, 0, none⟩ = some (.int .i64 a.f0) ∧ w'.cell? ⟨w.heap.size, 1, none⟩ = some (.int .i64 a.f1) ∧ w'.cell? ⟨w.heap.size + 1, 0, none⟩ = some (.int .i64 b.f0) ∧ w'.cell? ⟨w.heap.size + 1, 1, none⟩ = some (.int .i64 b.f1)) (ds := []) #[false, false, false, false, false, false, false, false, false, false, false, false, false] (by kernel_rfl) rfl rfl ⟨cell_of D0.out 0, cell_of D0.out 1, cell_of D1.out 0, cell_of D1.out 1⟩ (fun hHeld => ?_); refine with_tab tab48_1 (fun HT_ => ?_)
  have hbD := below_drew1 (Below.refl w1.heap.size w1)
  have hG2 := HG.out.drew
  generalize w1.drew = w2 at hbD hHeld hG2 ⊢
  have D0_1 := Aside0.mk ((hbD.block _ (lt_of D0.out)).trans D0.out)
  have D1_1 := Aside0.mk ((hbD.block _ (lt_of D1.out)).trans D1.out)
  have HG_1 := Aside0.mk (hG2)
  clear hbD hG2
  refine pure_ (i := 0) (N := some 5) (v := ?_) (a' := ?_) #[true, false, false, false, false, false, false, false, false, false, false, false, false] rfl rfl (any_of HT_.out (by kernel_rfl)) (fun _ _ _ h => h) (Or.inl ⟨by rfl, ?_⟩) ?_ ?_
  rotate_left
  · intro w'
    go_simp
    with_reducible rfl
  rotate_left
  · simp only [Act.put, List.setIfInBounds_toArray, List.set_cons_zero, List.set_cons_succ, i64_w, i32_w]
    rfl
  refine pure_ (i := 2) (N := some 7) (v := ?_) (a' := ?_) #[true, false, true, false, false, false, false, false, false, false, false, false, false] rfl rfl (any_of HT_.out (by kernel_rfl)) (fun _ _ _ h => h) (Or.inl ⟨by rfl, ?_⟩) ?_ ?_
  rotate_left
  · intro w'
    go_simp
    with_reducible rfl
  rotate_left
  · simp only [Act.put, List.setIfInBounds_toArray, List.set_cons_zero, List.set_cons_succ, i64_w, i32_w]
    rfl
  refine pure_ (i := 5) (N := some 10) (v := ?_) (a' := ?_) #[true, false, true, false, false, true, false, false, false, false, false, false, false] rfl rfl (any_of HT_.out (by kernel_rfl)) (fun _ _ _ h => h) (Or.inl ⟨by rfl, ?_⟩) ?_ ?_
  rotate_left
  · intro w'
    go_simp
    with_reducible rfl
  rotate_left
  · simp only [Act.put, List.setIfInBounds_toArray, List.set_cons_zero, List.set_cons_succ, i64_w, i32_w]
    rfl
  refine pure_ (i := 7) (N := some 12) (v := ?_) (a' := ?_) #[true, false, true, false, false, true, false, true, false, false, false, false, false] rfl rfl (any_of HT_.out (by kernel_rfl)) (fun _ _ _ h => h) (Or.inl ⟨by rfl, ?_⟩) ?_ ?_
  rotate_left
  · intro w'
    go_simp
    with_reducible rfl
  rotate_left
  · simp only [Act.put, List.setIfInBounds_toArray, List.set_cons_zero, List.set_cons_succ, i64_w, i32_w]
    rfl
  refine take_ (i := 1) (N := some 6) (v := ?_) (a' := ?_) #[true, true, true, false, false, true, false, true, false, false, false, false, false] rfl rfl (take_of HT_.out (by kernel_rfl)) (fun _ _ _ h => h) (Or.inl ⟨by rfl, ?_⟩) hHeld ?_ ?_
  rotate_left
  · rintro w' ⟨s0, s1, s2, s3⟩
    go_simp
    with_reducible rfl
  rotate_left
  · simp only [Act.put, List.setIfInBounds_toArray, List.set_cons_zero, List.set_cons_succ, i64_w, i32_w]
    rfl
  refine take_ (i := 3) (N := some 8) (v := ?_) (a' := ?_) #[true, true, true, true, false, true, false, true, false, false, false, false, false] rfl rfl (take_of HT_.out (by kernel_rfl)) (fun _ _ _ h => h) (Or.inl ⟨by rfl, ?_⟩) hHeld ?_ ?_
  rotate_left
  · rintro w' ⟨s0, s1, s2, s3⟩
    go_simp
    with_reducible rfl
  rotate_left
  · simp only [Act.put, List.setIfInBounds_toArray, List.set_cons_zero, List.set_cons_succ, i64_w, i32_w]
    rfl
  refine take_ (i := 6) (N := some 11) (v := ?_) (a' := ?_) #[true, true, true, true, false, true, true, true, false, false, false, false, false] rfl rfl (take_of HT_.out (by kernel_rfl)) (fun _ _ _ h => h) (Or.inl ⟨by rfl, ?_⟩) hHeld ?_ ?_
  rotate_left
  · rintro w' ⟨s0, s1, s2, s3⟩
    go_simp
    with_reducible rfl
  rotate_left
  · simp only [Act.put, List.setIfInBounds_toArray, List.set_cons_zero, List.set_cons_succ, i64_w, i32_w]
    rfl
  refine take_ (i := 8) (N := some 13) (v := ?_) (a' := ?_) #[true, true, true, true, false, true, true, true, true, false, false, false, false] rfl rfl (take_of HT_.out (by kernel_rfl)) (fun _ _ _ h => h) (Or.inl ⟨by rfl, ?_⟩) hHeld ?_ ?_
  rotate_left
  · rintro w' ⟨s0, s1, s2, s3⟩
    go_simp
    with_reducible rfl
  rotate_left
  · simp only [Act.put, List.setIfInBounds_toArray, List.set_cons_zero, List.set_cons_succ, i64_w, i32_w]
    rfl
  refine one_ (i := 4) (N := some 9) #[true, true, true, true, true, true, true, true, true, false, false, false, false] rfl rfl (one_of HT_.out (by kernel_rfl)) (by decide) (fun K hK => ?_)
  refine goes_ Tryz.func50 (by kernel_rfl) rfl #[.int .i64 a.f0, .int .i64 b.f0] (by rfl) rfl rfl (by (try simp only [List.map_toArray, List.map_cons, List.map_nil]); first | done | rfl) ?_
  refine (cmp_Compare_int.calls _ _ v0 _ (by rw [HV0.out]; exact cmpI_eq a.f0 b.f0)).mono ?_
  rintro e wc4 ⟨rfl, hd⟩
  refine ⟨_, rfl, ?_⟩
  have D0_2 := Aside0.mk ((hd.below.block _ (lt_of D0_1.out)).trans D0_1.out)
  have D1_2 := Aside0.mk ((hd.below.block _ (lt_of D1_1.out)).trans D1_1.out)
  have HG_2 := Aside0.mk (Gr.drawn HG_1.out hd)
  clear hd hHeld
  refine hK.out _ _ ⟨cell_of D0_2.out 0, cell_of D0_2.out 1, cell_of D1_2.out 0, cell_of D1_2.out 1⟩ (fun hHeld => ?_)
  clear hK K
  refine norm_ (a' := ?_) ?_ ?_
  rotate_left
  · show Act.put _ (some 9) _ = _
    simp only [Act.put, List.setIfInBounds_toArray, List.set_cons_zero, List.set_cons_succ, i64_w, i32_w]
    rfl
  refine one_ (i := 9) (N := some 14) #[true, true, true, true, true, true, true, true, true, true, false, false, false] rfl rfl (one_of HT_.out (by kernel_rfl)) (by decide) (fun K hK => ?_)
  refine goes_ Tryz.func50 (by kernel_rfl) rfl #[.int .i64 a.f1, .int .i64 b.f1] (by rfl) rfl rfl (by (try simp only [List.map_toArray, List.map_cons, List.map_nil]); first | done | rfl) ?_
  refine (cmp_Compare_int.calls _ _ v1 _ (by rw [HV1.out]; exact cmpI_eq a.f1 b.f1)).mono ?_
  rintro e wc9 ⟨rfl, hd⟩
  refine ⟨_, rfl, ?_⟩
  have D0_3 := Aside0.mk ((hd.below.block _ (lt_of D0_2.out)).trans D0_2.out)
  have D1_3 := Aside0.mk ((hd.below.block _ (lt_of D1_2.out)).trans D1_2.out)
  have HG_3 := Aside0.mk (Gr.drawn HG_2.out hd)
  clear hd hHeld
  refine hK.out _ _ ⟨cell_of D0_3.out 0, cell_of D0_3.out 1, cell_of D1_3.out 0, cell_of D1_3.out 1⟩ (fun hHeld => ?_)
  clear hK K
  refine norm_ (a' := ?_) ?_ ?_
  rotate_left
  · show Act.put _ (some 14) _ = _
    simp only [Act.put, List.setIfInBounds_toArray, List.set_cons_zero, List.set_cons_succ, i64_w, i32_w]
    rfl
  refine one_ (i := 10) (N := some 15) #[true, true, true, true, true, true, true, true, true, true, true, false, false] rfl rfl (one_of HT_.out (by kernel_rfl)) (by decide) (fun K hK => ?_)
  have hbA := below_alloc (Below.refl wc9.heap.size wc9) (.cells #[.int .i64 v0, .int .i64 v1] 3)
  have hNw := heap_new wc9 (.cells #[.int .i64 v0, .int .i64 v1] 3)
  have hGA := Gr.alloc HG_3.out (.cells #[.int .i64 v0, .int .i64 v1] 3)
  refine value_ (w1 := ?_) (v := ?_) (by rfl) rfl ?_ ?_
  rotate_left
  rotate_left
  · go_simp
    constructor
    · rfl
    · rfl
  show K _ (wc9.alloc (.cells #[.int .i64 v0, .int .i64 v1] 3))
  generalize hbx : wc9.heap.size = bx at hNw ⊢
  have HBX := Aside0.mk hbx; clear hbx
  generalize wc9.alloc (.cells #[.int .i64 v0, .int .i64 v1] 3) = wa at hNw hbA hGA ⊢
  have D0_4 := Aside0.mk ((hbA.block _ (lt_of D0_3.out)).trans D0_3.out)
  have D1_4 := Aside0.mk ((hbA.block _ (lt_of D1_3.out)).trans D1_3.out)
  have HG_4 := Aside0.mk (hGA)
  have HNw := Aside0.mk hNw
  clear hbA hGA hHeld hNw
  refine hK.out _ _ ⟨cell_of D0_4.out 0, cell_of D0_4.out 1, cell_of D1_4.out 0, cell_of D1_4.out 1⟩ (fun hHeld => ?_)
  clear hK K
  refine norm_ (a' := ?_) ?_ ?_
  rotate_left
  · show Act.put _ (some 15) _ = _
    simp only [Act.put, List.setIfInBounds_toArray, List.set_cons_zero, List.set_cons_succ, i64_w, i32_w]
    rfl
  refine one_ (i := 11) (N := some 16) #[true, true, true, true, true, true, true, true, true, true, true, true, false] rfl rfl (one_of HT_.out (by kernel_rfl)) (by decide) (fun K hK => ?_)
  refine goes_ Tryz.func49 (by kernel_rfl) rfl #[.slice (some ⟨bx, 0, none⟩) 2 2] (by rfl) rfl rfl (by (try simp only [List.map_toArray, List.map_cons, List.map_nil]); first | done | rfl) ?_
  refine (cmp_Or_int.calls k (some ⟨bx, 0, none⟩) 2 [v0, v1] _ wa (C_ints (l := [v0, v1]) HNw.out) (Nat.le_refl _) HK.out).mono ?_
  rintro e wo ⟨rfl, hd⟩
  refine ⟨_, rfl, ?_⟩
  have D0_5 := Aside0.mk ((hd.below.block _ (lt_of D0_4.out)).trans D0_4.out)
  have D1_5 := Aside0.mk ((hd.below.block _ (lt_of D1_4.out)).trans D1_4.out)
  have HG_5 := Aside0.mk (Gr.drawn HG_4.out hd)
  clear hd hHeld
  refine hK.out _ _ ⟨cell_of D0_5.out 0, cell_of D0_5.out 1, cell_of D1_5.out 0, cell_of D1_5.out 1⟩ (fun hHeld => ?_)
  clear hK K
  refine norm_ (a' := ?_) ?_ ?_
  rotate_left
  · show Act.put _ (some 16) _ = _
    simp only [Act.put, List.setIfInBounds_toArray, List.set_cons_zero, List.set_cons_succ, i64_w, i32_w]
    rfl
  refine pure_ (i := 12) (N := some 4) (v := ?_) (a' := ?_) #[true, true, true, true, true, true, true, true, true, true, true, true, true] rfl rfl (any_of HT_.out (by kernel_rfl)) (fun _ _ _ h => h) (Or.inl ⟨by rfl, ?_⟩) ?_ ?_
  rotate_left
  · intro w'
    go_simp
    with_reducible rfl
  rotate_left
  · simp only [Act.put, List.setIfInBounds_toArray, List.set_cons_zero, List.set_cons_succ, i64_w, i32_w]
    rfl
  refine done_ (done_of HT_.out (by kernel_rfl)) ?_
  clear hHeld HT_
  go_wp2
  go_ret
  exact ⟨rfl, HG_5.out⟩
end Go.Proofs.YtldlenjfpjihdaaGreat.PS
end
