/- RowDecodes: the law returns true at every input, and its arguments read as before. Conditions: as the row has them (the listed tables as the program's text lays them). -/
import Derived.Test.YtpiifdbicibelaaDoorKRowDecodes4
section
namespace Go.Proofs.YtpiifdbicibelaaDoor.Pure
open Go.RowKit Go.Proofs Go.Proofs.YtpiifdbicibelaaDoorW.PrintWords Go.Proofs.YtpiifdbicibelaaDoorW.PrintLast Go.Proofs.YtpiifdbicibelaaDoorW.PrintMore Go.Proofs.YtpiifdbicibelaaDoor.PA Go.Proofs.YtpiifdbicibelaaDoor.OpenK
set_option linter.unusedVariables false
set_option linter.unusedSimpArgs false
theorem Ev.dep {α β : Type} {f : Nat → Option α} {f' : Nat → Option β} {v : α} {b : β} (h : Ev f v) (h2 : ∀ k, f k = some v → f' (k + 1) = some b) : Ev f' b := by
  obtain ⟨k0, h⟩ := h
  refine ⟨k0 + 1, fun k hk => ?_⟩
  obtain ⟨k, rfl⟩ : ∃ q, k = q + 1 := ⟨k - 1, by omega⟩
  exact h2 k (h k (by omega))
theorem Ev.dep2 {α β γ : Type} {f : Nat → Option α} {g : Nat → Option γ} {f' : Nat → Option β} {v : α} {c : γ} {b : β} (h : Ev f v) (hg : Ev g c) (h2 : ∀ k, f k = some v → g k = some c → f' (k + 1) = some b) : Ev f' b := by
  obtain ⟨k0, h⟩ := h
  obtain ⟨k1, hg⟩ := hg
  refine ⟨k0 + k1 + 1, fun k hk => ?_⟩
  obtain ⟨k, rfl⟩ : ∃ q, k = q + 1 := ⟨k - 1, by omega⟩
  exact h2 k (h k (by omega)) (hg k (by omega))
abbrev G6' := Int × Int × Nat × ByteArray × ByteArray × Bool
/-- What the program tells of a value, held against what stands there. -/
def getSpec (c : S105) (o : Option (S50 × List Int)) (r : G6') : Prop :=
  match o with
  | none => r.2.2.2.2.2 = false
  | some (v, R) => if fitB c v = true then r = (v.f0, v.f1, v.f2, v.f3, strOfNums R, true) else r.2.2.2.2.2 = false
theorem fitB_of {c : S105} {v : S50} (h : chkV v = 0) (h0 : v.f0 ≠ 0) (h1 : v.f0 = c.f1) : fitB c v = true := fitB_iff.2 ⟨h, .inr ⟨h0, h1⟩⟩
theorem get_code {c : S105} (hk : 1 ≤ c.f1 ∧ c.f1 ≤ 5) (m : Int) (hm : 0 ≤ m ∧ m ≤ 3) (L : List Int) (hL : Bytes L) (hlen : L.length ≤ 65536) :
    ∃ r, Ev (fun k => row_get.f k c.f0 c.f1 c.f2 c.f3.f0 c.f3.f1 c.f3.f2 c.f3.f3 m (strOfNums L)) r ∧ getSpec c (valR c.f1 m L) r := by
  simp only [row_get.f]
  by_cases h0 : m = 0
  · refine ⟨(0, 0, 0, (⟨#[]⟩ : ByteArray), strOfNums L, c.f2), Ev.pos h0 Ev.pure, ?_⟩
    subst h0
    have hc : chkV ⟨0, 0, 0, (⟨#[]⟩ : ByteArray)⟩ = 0 := chk_plain (.inl rfl) 0 (by decide) (fun _ _ => rfl) (fun _ => rfl)
    have hf : fitB c ⟨0, 0, 0, (⟨#[]⟩ : ByteArray)⟩ = c.f2 := by
      unfold fitB
      rw [decide_eq_true hc]; simp
    have hv : valR c.f1 0 L = some (⟨0, 0, 0, (⟨#[]⟩ : ByteArray)⟩, L) := by simp [valR]
    rw [hv]
    show if fitB c ⟨0, 0, 0, (⟨#[]⟩ : ByteArray)⟩ = true then _ else _
    rw [hf]
    cases hn : c.f2 <;> simp
  -- the kinds, the bits being 1 or 2
  have hj : ∀ b : Bool, (b = true ↔ m > 2 ∨ (m = 2 ∧ c.f1 ≠ 1)) → ∃ r, Ev (fun k => row_get.j0 k m (strOfNums L) b c.f0 c.f1 c.f2 c.f3.f0 c.f3.f1 c.f3.f2 c.f3.f3 c.f1 0 0 (⟨#[]⟩ : ByteArray)) r ∧ getSpec c (valR c.f1 m L) r := by
    intro b hb
    by_cases hbt : b = true
    · have hbm := hb.1 hbt
      refine ⟨(c.f1, 0, 0, (⟨#[]⟩ : ByteArray), (⟨#[]⟩ : ByteArray), false), Ev.from_ 1 fun k => ?_, ?_⟩
      · simp only [row_get.j0]; rw [if_pos hbt]
      · have hv : valR c.f1 m L = none := by
          unfold valR
          rw [if_neg h0, if_neg (by omega), if_pos (by omega)]
        rw [hv]; rfl
    have hbm : ¬ (m > 2 ∨ (m = 2 ∧ c.f1 ≠ 1)) := fun h => hbt (hb.2 h)
    by_cases k1 : c.f1 = 1
    · refine ⟨(c.f1, m - 1, 0, (⟨#[]⟩ : ByteArray), strOfNums L, true), Ev.from_ 1 fun k => ?_, ?_⟩
      · simp only [row_get.j0]
        rw [if_neg hbt, if_pos k1]
        have : (m - 1) % 256 = m - 1 := by omega
        rw [this]
      · have hv : valR c.f1 m L = some (⟨1, m - 1, 0, (⟨#[]⟩ : ByteArray)⟩, L) := by
          unfold valR
          rw [if_neg h0, if_pos ⟨k1, by omega⟩]
        rw [hv]
        have hc : chkV ⟨1, m - 1, 0, (⟨#[]⟩ : ByteArray)⟩ = 0 := chk_plain (.inr (.inl rfl)) 0 (fun _ => (show m - 1 = 0 ∨ m - 1 = 1 by omega)) (fun h => absurd rfl h) (fun _ => rfl)
        show if fitB c ⟨1, m - 1, 0, (⟨#[]⟩ : ByteArray)⟩ = true then _ else _
        rw [if_pos (fitB_of hc (show (1 : Int) ≠ 0 by decide) k1.symm), k1]
    have hm1 : m = 1 := by omega
    have hv0 : valR c.f1 m L = if c.f1 = 3 then (if L.length < 8 then none else some (⟨3, 0, lowN (L.take 8), (⟨#[]⟩ : ByteArray)⟩, L.drop 8))
        else match vr 0 L with
          | none => none
          | some (n, R) => if c.f1 = 2 then some (⟨2, uz n, 0, (⟨#[]⟩ : ByteArray)⟩, R) else if R.length < n then none else some (⟨c.f1, 0, 0, strOfNums (R.take n)⟩, R.drop n) := by
      unfold valR
      rw [if_neg h0, if_neg (fun h => k1 h.1), if_neg (by omega)]
      rfl
    have hvar := varint_ev L hL (by omega)
    by_cases k2 : c.f1 = 2
    · cases hv : vr 0 L with
      | none =>
        rw [hv] at hvar
        have hz : row_unzig.f 0 = some (uz 0) := unzig_f 0 (by decide)
        refine ⟨(c.f1, uz 0, 0, (⟨#[]⟩ : ByteArray), (⟨#[]⟩ : ByteArray), false), ?_, ?_⟩
        · refine Ev.dep hvar fun k hk => ?_
          simp only [row_get.j0]
          rw [if_neg hbt, if_neg k1, if_pos k2, hk]
          simp only [Option.bind_some, hz]
        · rw [hv0, if_neg (by omega), hv]; rfl
      | some p =>
        obtain ⟨n, R⟩ := p
        rw [hv] at hvar
        obtain ⟨_, g2, _, _⟩ := vr_sound 0 L n R hL hv
        have g2' : n < 18446744073709551616 := g2
        refine ⟨(c.f1, uz n, 0, (⟨#[]⟩ : ByteArray), strOfNums R, true), ?_, ?_⟩
        · refine Ev.dep hvar fun k hk => ?_
          simp only [row_get.j0]
          rw [if_neg hbt, if_neg k1, if_pos k2, hk]
          simp only [Option.bind_some, unzig_f n g2']
        · rw [hv0, if_neg (by omega), hv]
          simp only [getSpec]
          rw [if_pos k2]
          have hc : chkV ⟨2, uz n, 0, (⟨#[]⟩ : ByteArray)⟩ = 0 := chk_plain (.inr (.inr (.inl rfl))) 0 (fun h => absurd h (by decide)) (fun _ h => absurd rfl h) (fun _ => rfl)
          simp only
          rw [if_pos (fitB_of hc (show (2 : Int) ≠ 0 by decide) k2.symm), k2]
    by_cases k3 : c.f1 = 3
    · by_cases h8 : L.length < 8
      · refine ⟨(c.f1, 0, 0, (⟨#[]⟩ : ByteArray), (⟨#[]⟩ : ByteArray), false), Ev.from_ 1 fun k => ?_, ?_⟩
        · simp only [row_get.j0, str_size]
          rw [if_neg hbt, if_neg k1, if_neg k2, if_pos k3, if_pos (by omega)]
        · rw [hv0, if_pos k3, if_pos h8]; rfl
      · have hlow := low_ev L hL (by omega)
        refine ⟨(c.f1, 0, lowN (L.take 8), (⟨#[]⟩ : ByteArray), strOfNums (L.drop 8), true), ?_, ?_⟩
        · refine Ev.dep hlow fun k hk => ?_
          simp only [row_get.j0]
          rw [if_neg hbt, if_neg k1, if_neg k2, if_pos k3, if_neg (by rw [str_size]; omega), hk]
          simp only [Option.bind_some]
          rw [if_pos (by rw [str_size]; omega), str_drop]
          rfl
        · rw [hv0, if_pos k3, if_neg h8]
          have hc : chkV ⟨3, 0, lowN (L.take 8), (⟨#[]⟩ : ByteArray)⟩ = 0 := chk_plain (.inr (.inr (.inr rfl))) _ (fun h => absurd h (by decide)) (fun _ _ => rfl) (fun h => absurd rfl h)
          simp only [getSpec]
          rw [if_pos (fitB_of hc (show (3 : Int) ≠ 0 by decide) k3.symm), k3]
    · cases hv : vr 0 L with
      | none =>
        rw [hv] at hvar
        refine ⟨(c.f1, 0, 0, (⟨#[]⟩ : ByteArray), (⟨#[]⟩ : ByteArray), false), ?_, ?_⟩
        · refine Ev.dep hvar fun k hk => ?_
          simp only [row_get.j0]
          rw [if_neg hbt, if_neg k1, if_neg k2, if_neg k3, hk]
          simp only [Option.bind_some]
          rw [if_neg (by decide)]
        · rw [hv0, if_neg k3, hv]; rfl
      | some p =>
        obtain ⟨n, R⟩ := p
        rw [hv] at hvar
        obtain ⟨e1, g2, _, _⟩ := vr_sound 0 L n R hL hv
        have g2' : n < 18446744073709551616 := g2
        have hRl := vr_len 0 L n R hv
        have hws : IntKind.u64.wrap ((strOfNums R).size : Int) = (R.length : Int) := by rw [str_size]; exact u64_wrap_id (by omega) (by omega)
        by_cases hn : R.length < n
        · refine ⟨(c.f1, 0, 0, (⟨#[]⟩ : ByteArray), (⟨#[]⟩ : ByteArray), false), ?_, ?_⟩
          · refine Ev.dep hvar fun k hk => ?_
            simp only [row_get.j0]
            rw [if_neg hbt, if_neg k1, if_neg k2, if_neg k3, hk]
            simp only [Option.bind_some]
            rw [if_pos trivial, hws, if_pos (by omega)]
          · rw [hv0, if_neg k3, hv]
            simp only
            rw [if_neg k2, if_pos hn]; rfl
        · have hx1 : (strOfNums R).extract 0 (((n : Nat) : Int)).toNat = strOfNums (R.take n) := by
            rw [str_take]; simp
          have hx2 : (strOfNums R).extract (((n : Nat) : Int)).toNat (strOfNums R).size = strOfNums (R.drop n) := str_drop R n
          have hts : (strOfNums (R.take n)).size ≤ 65536 := by rw [str_size, List.length_take]; omega
          have hchk : Ev (fun k => value_Check.f k c.f1 0 0 (strOfNums (R.take n))) (chk c.f1 0 0 (strOfNums (R.take n))) := Ev.from_ 6 fun k => check_code k _ _ _ _ (by omega)
          refine ⟨(c.f1, 0, 0, strOfNums (R.take n), strOfNums (R.drop n), (chk c.f1 0 0 (strOfNums (R.take n)) == 0)), ?_, ?_⟩
          · refine Ev.dep2 hvar hchk fun k hk hk2 => ?_
            simp only [row_get.j0]
            rw [if_neg hbt, if_neg k1, if_neg k2, if_neg k3, hk]
            simp only [Option.bind_some]
            rw [if_pos trivial, hws, if_neg (by omega), if_pos (by omega), if_pos (by rw [str_size]; omega), hx1, hx2, hk2]
            rfl
          · rw [hv0, if_neg k3, hv]
            simp only
            rw [if_neg k2, if_neg hn]
            simp only [getSpec]
            by_cases hc : chk c.f1 0 0 (strOfNums (R.take n)) = 0
            · rw [if_pos (fitB_of (v := ⟨c.f1, 0, 0, strOfNums (R.take n)⟩) hc (show c.f1 ≠ 0 by omega) rfl), hc]; rfl
            · rw [if_neg (fun h => hc ((fitB_iff (c := c) (v := ⟨c.f1, 0, 0, strOfNums (R.take n)⟩)).1 h).1)]
              simpa using hc
  by_cases h2 : m > 2
  · obtain ⟨r, hr, hs⟩ := hj true (by simp [h2])
    exact ⟨r, Ev.neg h0 (Ev.pos h2 hr), hs⟩
  by_cases h3 : m = 2
  · obtain ⟨r, hr, hs⟩ := hj (c.f1 != 1) (by simp [h3])
    exact ⟨r, Ev.neg h0 (Ev.neg h2 (Ev.pos h3 hr)), hs⟩
  · obtain ⟨r, hr, hs⟩ := hj false (by simp; omega)
    exact ⟨r, Ev.neg h0 (Ev.neg h2 (Ev.neg h3 hr)), hs⟩
abbrev G5' := Int × Int × Nat × ByteArray × Int
def valSpec (len : Nat) (o : Option (S50 × List Int)) (r : G5') : Prop :=
  match o with
  | none => r.2.2.2.2 = -1
  | some (v, R) => r = (v.f0, v.f1, v.f2, v.f3, ((len - R.length : Nat) : Int))
theorem value_ref {kind : Int} (hk : 1 ≤ kind ∧ kind ≤ 5) (m : Int) (hm : 0 ≤ m ∧ m ≤ 3) (L : List Int) (hL : Bytes L) (hlen : L.length ≤ 65536) :
    ∃ r, Ev (fun k => vellumref04_value.f k kind m (strOfNums L)) r ∧ valSpec L.length (valR kind m L) r := by
  simp only [vellumref04_value.f]
  by_cases h0 : m = 0
  · refine ⟨(0, 0, 0, (⟨#[]⟩ : ByteArray), 0), Ev.pos h0 Ev.pure, ?_⟩
    subst h0
    have hv : valR kind 0 L = some (⟨0, 0, 0, (⟨#[]⟩ : ByteArray)⟩, L) := by simp [valR]
    rw [hv]
    simp only [valSpec, Nat.sub_self]; rfl
  have hj : ∀ b : Bool, (b = true ↔ (kind = 1 ∧ m < 3)) → ∃ r, Ev (fun k => vellumref04_value.j0 k kind m (strOfNums L) b kind 0 0 (⟨#[]⟩ : ByteArray)) r ∧ valSpec L.length (valR kind m L) r := by
    intro b hb
    by_cases hbt : b = true
    · have hbm := hb.1 hbt
      refine ⟨(kind, m - 1, 0, (⟨#[]⟩ : ByteArray), 0), Ev.from_ 1 fun k => ?_, ?_⟩
      · simp only [vellumref04_value.j0]; rw [if_pos hbt]
        have : (m - 1) % 256 = m - 1 := by omega
        rw [this]
      · have hv : valR kind m L = some (⟨1, m - 1, 0, (⟨#[]⟩ : ByteArray)⟩, L) := by
          unfold valR
          rw [if_neg h0, if_pos hbm]
        rw [hv, hbm.1]
        simp only [valSpec, Nat.sub_self]; rfl
    have hbm : ¬ (kind = 1 ∧ m < 3) := fun h => hbt (hb.2 h)
    by_cases h1 : 1 < m
    · refine ⟨(kind, 0, 0, (⟨#[]⟩ : ByteArray), -1), Ev.from_ 1 fun k => ?_, ?_⟩
      · simp only [vellumref04_value.j0]; rw [if_neg hbt, if_pos h1]
      · have hv : valR kind m L = none := by
          unfold valR
          rw [if_neg h0, if_neg hbm, if_pos h1]
        rw [hv]; rfl
    have hv0 : valR kind m L = if kind = 3 then (if L.length < 8 then none else some (⟨3, 0, lowN (L.take 8), (⟨#[]⟩ : ByteArray)⟩, L.drop 8))
        else match vr 0 L with
          | none => none
          | some (n, R) => if kind = 2 then some (⟨2, uz n, 0, (⟨#[]⟩ : ByteArray)⟩, R) else if R.length < n then none else some (⟨kind, 0, 0, strOfNums (R.take n)⟩, R.drop n) := by
      unfold valR
      rw [if_neg h0, if_neg hbm, if_neg h1]
      rfl
    by_cases k3 : kind = 3
    · by_cases h8 : L.length < 8
      · refine ⟨(kind, 0, 0, (⟨#[]⟩ : ByteArray), -1), Ev.from_ 1 fun k => ?_, ?_⟩
        · simp only [vellumref04_value.j0, str_size]
          rw [if_neg hbt, if_neg h1, if_pos k3, if_pos (by omega)]
        · rw [hv0, if_pos k3, if_pos h8]; rfl
      · have hlow := value_l0 L hL (by omega) kind 0 0 (⟨#[]⟩ : ByteArray) 8 0 rfl
        refine ⟨(kind, 0, lowN (L.take 8), (⟨#[]⟩ : ByteArray), 8), ?_, ?_⟩
        · refine Ev.step (fun k => ?_) hlow
          simp only [vellumref04_value.j0]
          rw [if_neg hbt, if_neg h1, if_pos k3, if_neg (by rw [str_size]; omega)]
          rfl
        · rw [hv0, if_pos k3, if_neg h8, k3]
          simp only [valSpec, List.length_drop]
          have : L.length - (L.length - 8) = 8 := by omega
          rw [this]; rfl
    have hnum := number_ev4 L hL (by omega)
    cases hv : vr 0 L with
    | none =>
      rw [hv] at hnum
      refine ⟨(kind, 0, 0, (⟨#[]⟩ : ByteArray), -1), ?_, ?_⟩
      · refine Ev.dep hnum fun k hn => ?_
        simp only [vellumref04_value.j0]
        rw [if_neg hbt, if_neg h1, if_neg k3, hn]
        simp only [Option.bind_some]
        rw [if_pos trivial]
      · rw [hv0, if_neg k3, hv]; rfl
    | some p =>
      obtain ⟨n, R⟩ := p
      rw [hv] at hnum
      obtain ⟨e1, g2, _, _⟩ := vr_sound 0 L n R hL hv
      have g2' : n < 18446744073709551616 := g2
      have hRl := vr_len 0 L n R hv
      have hp : ¬ ((L.length - R.length : Nat) : Int) = 0 := by omega
      by_cases k2 : kind = 2
      · refine ⟨(kind, uz n, 0, (⟨#[]⟩ : ByteArray), ((L.length - R.length : Nat) : Int)), ?_, ?_⟩
        · refine Ev.dep hnum fun k hn => ?_
          simp only [vellumref04_value.j0]
          rw [if_neg hbt, if_neg h1, if_neg k3, hn]
          simp only [Option.bind_some]
          have e0 : (n : Int) / 2 = ((n / 2 : Nat) : Int) := by omega
          have e3 : Int.tmod (n : Int) 2 = ((n % 2 : Nat) : Int) := rfl
          rw [if_neg hp, if_pos k2, e0, e3, wrap64_id (n := ((n / 2 : Nat) : Int)) (by omega) (by omega), wrap64_id (n := -((n / 2 : Nat) : Int)) (by omega) (by omega), wrap64_id (by omega) (by omega)]
          unfold uz
          by_cases h2 : n % 2 = 0
          · rw [if_neg (by omega), if_pos h2]
          · rw [if_pos (by omega), if_neg h2]
        · rw [hv0, if_neg k3, hv]
          simp only
          rw [if_pos k2, k2]; rfl
      · have hsub : True → IntKind.u64.wrap (wrap64 (((strOfNums L).size : Int) - ((L.length - R.length : Nat) : Int))) = (R.length : Int) := fun _ => by rw [str_size, wrap64_id (by omega) (by omega), u64_wrap_id (by omega) (by omega)]; omega
        have hR : R = L.drop (L.length - R.length) := by
          have hl := congrArg List.length e1
          rw [List.length_append] at hl
          have : L.length - R.length = (vb n).length := by omega
          rw [this]
          conv => rhs; rw [e1]
          simp
        by_cases hn : R.length < n
        · refine ⟨(kind, 0, 0, (⟨#[]⟩ : ByteArray), -1), ?_, ?_⟩
          · refine Ev.dep hnum fun k hnn => ?_
            simp only [vellumref04_value.j0]
            rw [if_neg hbt, if_neg h1, if_neg k3, hnn]
            simp only [Option.bind_some]
            rw [if_neg hp, if_neg k2, hsub trivial, if_pos (by omega)]
          · rw [hv0, if_neg k3, hv]
            simp only
            rw [if_neg k2, if_pos hn]; rfl
        · refine ⟨(kind, 0, 0, strOfNums (R.take n), ((L.length - (R.drop n).length : Nat) : Int)), ?_, ?_⟩
          · refine Ev.dep hnum fun k hnn => ?_
            have hw1 : True → wrap64 (n : Int) = (n : Int) := fun _ => wrap64_id (by omega) (by omega)
            have hw2 : True → wrap64 (((L.length - R.length : Nat) : Int) + (n : Int)) = ((L.length - (R.drop n).length : Nat) : Int) := fun _ => by rw [wrap64_id (by omega) (by omega), List.length_drop]; omega
            simp only [vellumref04_value.j0]
            rw [if_neg hbt, if_neg h1, if_neg k3, hnn]
            simp only [Option.bind_some]
            rw [if_neg hp, if_neg k2, hsub trivial, if_neg (by omega), hw1 trivial, hw2 trivial]
            rw [if_pos (by omega), if_pos (by rw [List.length_drop]; omega), if_pos (by rw [str_size]; omega)]
            have hx : (strOfNums L).extract ((((L.length - R.length : Nat) : Int))).toNat ((((L.length - (R.drop n).length : Nat) : Int))).toNat = strOfNums (R.take n) := by
              rw [str_take]
              simp only [Int.toNat_natCast]
              rw [← hR, List.length_drop]
              congr 2; omega
            rw [hx]
          · rw [hv0, if_neg k3, hv]
            simp only
            rw [if_neg k2, if_neg hn]; rfl
  by_cases h1 : kind = 1
  · obtain ⟨r, hr, hs⟩ := hj (decide (m < 3)) (by simp [h1])
    exact ⟨r, Ev.neg h0 (Ev.pos h1 hr), hs⟩
  · obtain ⟨r, hr, hs⟩ := hj false (by simp [h1])
    exact ⟨r, Ev.neg h0 (Ev.neg h1 hr), hs⟩
end Go.Proofs.YtpiifdbicibelaaDoor.Pure
end
section
namespace Go.Proofs.YtpiifdbicibelaaDoor.PA
open Go.RowKit Go.Proofs.YtpiifdbicibelaaDoorW.PrintWords Go.Proofs.YtpiifdbicibelaaDoorW.PrintLast Go.Proofs.YtpiifdbicibelaaDoorW.PrintMore
attribute [local go_sem] max2_int min2_int max_two min_two max_three min_three max_four min_four
set_option linter.unusedVariables false
set_option linter.unusedSimpArgs false
def vellumref04_Decode.l0 : Nat → ByteArray → List Int → Int → ByteArray → List (S105) → List Int → List (S115) → List (S139) → Option ((List (S50)) × Int)
  | 0, _, _, _, _, _, _, _, _ => none
  | k + 1, x1, x7, x8, x844000, x844001, x844002, x844003, x844004 => if x8 < (x844001.length : Int) then (if 0 ≤ x8 then (if x7.length < 17592186044416 then (vellumref04_Decode.l0 k x1 (x7 ++ [(rd_T105 x844001 x8).f1]) (wrap64 (x8 + 1)) x844000 x844001 x844002 x844003 x844004) else (none)) else (none)) else ((vellumref04_values.f k x7 x1).bind fun bt849 => (if bt849.2 = (x1.size : Int) then ((vellumref03_Admits.f k x844000 x844001 x844002 x844003 x844004 bt849.1).bind fun t853 => (if t853 = 0 then (some (bt849.1, 0)) else (some (([] : List (S50)), 41)))) else (some (([] : List (S50)), 41))))
def vellumref04_Decode.f (k : Nat) (a0_0 : ByteArray) (l0_1 : List (S105)) (l0_2 : List Int) (l0_3 : List (S115)) (l0_4 : List (S139)) (a1 : ByteArray) : Option ((List (S50)) × Int) := (vellumref03_Check.f k a0_0 l0_1 l0_2 l0_3 l0_4).bind fun t844 => (if t844 = 0 then (if (a1.size : Int) > 65536 then (some (([] : List (S50)), 3)) else (vellumref04_Decode.l0 k a1 ([] : List Int) 0 a0_0 l0_1 l0_2 l0_3 l0_4)) else (some (([] : List (S50)), t844)))
set_option maxHeartbeats 8000000 in
set_option maxRecDepth 100000 in
theorem vellumref04_Decode.calls (k : Nat) (a0_0 : ByteArray) (A0_1 : Option Addr) (c0_1 : Nat) (l0_1 : List (S105)) (A0_2 : Option Addr) (c0_2 : Nat) (l0_2 : List Int) (A0_3 : Option Addr) (c0_3 : Nat) (l0_3 : List (S115)) (A0_4 : Option Addr) (c0_4 : Nat) (l0_4 : List (S139)) (a1 : ByteArray) (r1 : List (S50)) (r2 : Int) (w : World) (hr0_1 : Kd.C k105 w A0_1 l0_1.length l0_1) (hc0_1 : l0_1.length ≤ c0_1) (hr0_2 : Kd.C (Kd.int .i64) w A0_2 l0_2.length l0_2) (hc0_2 : l0_2.length ≤ c0_2) (hr0_3 : Kd.C k115 w A0_3 l0_3.length l0_3) (hc0_3 : l0_3.length ≤ c0_3) (hr0_4 : Kd.C k139 w A0_4 l0_4.length l0_4) (hc0_4 : l0_4.length ≤ c0_4) (hG : Glob w) (h : vellumref04_Decode.f k a0_0 l0_1 l0_2 l0_3 l0_4 a1 = some (r1, r2)) :
    Calls Tryd.prog 59 #[.agg #[.string a0_0, .slice A0_1 l0_1.length c0_1, .slice A0_2 l0_2.length c0_2, .slice A0_3 l0_3.length c0_3, .slice A0_4 l0_4.length c0_4], .string a1] w fun e w' => ∃ v0_ : Value, e = .returned (.tuple #[v0_, .int .i64 r2]) ∧ Kd.R k50 50 w' w.heap.size (fun _ => True) v0_ r1 ∧ Below w.heap.size w w' := by
  have hu65 := Tryd.underlying65
  have HR0_1 := am hr0_1
  have HC0_1 := am hc0_1
  clear hr0_1 hc0_1
  have HR0_2 := am hr0_2
  have HC0_2 := am hc0_2
  clear hr0_2 hc0_2
  have HR0_3 := am hr0_3
  have HC0_3 := am hc0_3
  clear hr0_3 hc0_3
  have HR0_4 := am hr0_4
  have HC0_4 := am hc0_4
  clear hr0_4 hc0_4
  have HG := am hG
  clear hG
  have HB := am (Below.refl w.heap.size w)
  have H : ((vellumref03_Check.f k a0_0 l0_1 l0_2 l0_3 l0_4).bind fun t844 => (if t844 = 0 then (if (a1.size : Int) > 65536 then (some (([] : List (S50)), 3)) else (vellumref04_Decode.l0 k a1 ([] : List Int) 0 a0_0 l0_1 l0_2 l0_3 l0_4)) else (some (([] : List (S50)), t844)))) = some (r1, r2) := h
  clear h
  replace H := Option.bind_eq_some_iff.mp H
  obtain ⟨t844, A30, H⟩ := H
  replace H : (if t844 = 0 then (if (a1.size : Int) > 65536 then (some (([] : List (S50)), 3)) else (vellumref04_Decode.l0 k a1 ([] : List Int) 0 a0_0 l0_1 l0_2 l0_3 l0_4)) else (some (([] : List (S50)), t844))) = some (r1, r2) := H
  have A3 := am A30
  clear A30
  by_cases c4 : t844 = 0
  · rw [if_pos c4] at H
    have c4b0 : (t844 == 0) = true := beq_iff_eq.mpr c4
    have c4b1 : (t844 != 0) = false := bne_eq_false_iff_eq.mpr c4
    clear c4
    by_cases c5 : (a1.size : Int) > 65536
    · rw [if_pos c5] at H
      have c5b0 : decide (65536 < (a1.size : Int)) = true := decide_eq_true c5
      have c5b1 : decide (65536 < a1.size) = true := decide_eq_true (by omega)
      clear c5
      simp only [Option.some.injEq, Prod.mk.injEq] at H
      obtain ⟨rfl, rfl⟩ := H
      go_enter Tryd.func59, Tryd.ntmps59
      go_wp2_with (first | ((with_reducible refine gate_dst (N := 2) rfl ?_); refine box_event rfl (N := 2) rfl (cs := #[.string a0_0, .slice A0_1 l0_1.length c0_1, .slice A0_2 l0_2.length c0_2, .slice A0_3 l0_3.length c0_3, .slice A0_4 l0_4.length c0_4]) (t := 65) gs ?_; intro gb843 hg w6 hbox hb; have BK843 := am (hbox); have GW843 := gw hg HB; have GE843 := gw hg HB; replace HB := sb HB hb; clear hb hbox hg; obtain ⟨Z7_0, Z7_1, Z7_2, Z7_3, Z7_4, Y7_0, Y7_1, Y7_2, Y7_3, Y7_4⟩ := bq5 BK843) | ((with_reducible refine gate_callee (f := 93) rfl ?_); refine goesL_ (some 12) rfl rfl Tryd.func93 (by kernel_rfl) rfl #[.agg #[.string a0_0, .slice A0_1 l0_1.length c0_1, .slice A0_2 l0_2.length c0_2, .slice A0_3 l0_3.length c0_3, .slice A0_4 l0_4.length c0_4]] rfl ar ?_; (with_reducible refine (vellumref03_Check.calls k a0_0 _ _ l0_1 _ _ l0_2 _ _ l0_3 _ _ l0_4 t844 _ (Kd.cb HR0_1 HB) HC0_1.out (Kd.cb HR0_2 HB) HC0_2.out (Kd.cb HR0_3 HB) HC0_3.out (Kd.cb HR0_4 HB) HC0_4.out (Glob.below HG.out (bl HB)) A3.out).mono ?_); rintro e w8 ⟨rfl, hb⟩; refine ⟨_, rfl, ?_⟩; replace BK843 := kb BK843 hb; replace HB := sb HB hb; (try clear hb); (try clear hb2 hk hi)))
      go_ret2
      exact ⟨_, er, by first | exact Kd.R_nil _ _ _ _ _ | exact Kd.N_nil _ _ _ _ _ | exact Kd.V_nil _ _ _ _ _ | exact Kd.Q_nil _ _ _ _ _ | exact Kd.S_nil _ _ _ _ _, bl HB⟩
    · rw [if_neg c5] at H
      have c5b0 : decide (65536 < (a1.size : Int)) = false := decide_eq_false c5
      have c5b1 : decide (65536 < a1.size) = false := decide_eq_false (by omega)
      clear c5
      have H' := am H
      clear H
      go_enter Tryd.func59, Tryd.ntmps59
      go_wp2_with (first | ((with_reducible refine gate_dst (N := 2) rfl ?_); refine box_event rfl (N := 2) rfl (cs := #[.string a0_0, .slice A0_1 l0_1.length c0_1, .slice A0_2 l0_2.length c0_2, .slice A0_3 l0_3.length c0_3, .slice A0_4 l0_4.length c0_4]) (t := 65) gs ?_; intro gb843 hg w9 hbox hb; have BK843 := am (hbox); have GW843 := gw hg HB; have GE843 := gw hg HB; replace HB := sb HB hb; clear hb hbox hg; obtain ⟨Z10_0, Z10_1, Z10_2, Z10_3, Z10_4, Y10_0, Y10_1, Y10_2, Y10_3, Y10_4⟩ := bq5 BK843) | ((with_reducible refine gate_callee (f := 93) rfl ?_); refine goesL_ (some 12) rfl rfl Tryd.func93 (by kernel_rfl) rfl #[.agg #[.string a0_0, .slice A0_1 l0_1.length c0_1, .slice A0_2 l0_2.length c0_2, .slice A0_3 l0_3.length c0_3, .slice A0_4 l0_4.length c0_4]] rfl ar ?_; (with_reducible refine (vellumref03_Check.calls k a0_0 _ _ l0_1 _ _ l0_2 _ _ l0_3 _ _ l0_4 t844 _ (Kd.cb HR0_1 HB) HC0_1.out (Kd.cb HR0_2 HB) HC0_2.out (Kd.cb HR0_3 HB) HC0_3.out (Kd.cb HR0_4 HB) HC0_4.out (Glob.below HG.out (bl HB)) A3.out).mono ?_); rintro e w11 ⟨rfl, hb⟩; refine ⟨_, rfl, ?_⟩; replace BK843 := kb BK843 hb; replace HB := sb HB hb; (try clear hb); (try clear hb2 hk hi)))
      go_loopg [7, 8] k (fun kq v7 v8 w' => ∃ (x7_1 : List Int) (x8_1 : Int), v8 = .int .i64 x8_1 ∧ Aside0 (vellumref04_Decode.l0 kq a1 x7_1 x8_1 a0_0 l0_1 l0_2 l0_3 l0_4 = some (r1, r2)) ∧ Aside0 (kq ≤ k) ∧ Aside0 (Kd.R (Kd.int .i64) 3 w' w.heap.size (fun _ => True) v7 x7_1) ∧ Aside0 (w'.heap[gb843]? = some (.cells #[.string a0_0, (.slice A0_1 l0_1.length c0_1), (.slice A0_2 l0_2.length c0_2), (.slice A0_3 l0_3.length c0_3), (.slice A0_4 l0_4.length c0_4)] 65 (0, 0))) ∧ Aside0 (Below w.heap.size w w'))
      case atStart => exact ⟨(([] : List Int)), (0), eb, H', ⟨Nat.le_refl _⟩, ⟨by first | exact Kd.R_nil _ _ _ _ _ | exact Kd.N_nil _ _ _ _ _ | exact Kd.V_nil _ _ _ _ _ | exact Kd.Q_nil _ _ _ _ _ | exact Kd.S_nil _ _ _ _ _⟩, ⟨bk BK843⟩, ⟨bl HB⟩⟩
      case round =>
        clear H'
        try clear p2
        try clear c4
        try clear c4b0
        try clear c4b1
        try clear c5
        try clear c5b0
        try clear c5b1
        try clear c9
        try clear Z10_0
        try clear Z10_1
        try clear Z10_2
        try clear Z10_3
        try clear Z10_4
        try clear Z7_0
        try clear Z7_1
        try clear Z7_2
        try clear Z7_3
        try clear Z7_4
        try clear Y10_0
        try clear Y10_1
        try clear Y10_2
        try clear Y10_3
        try clear Y10_4
        try clear Y7_0
        try clear Y7_1
        try clear Y7_2
        try clear Y7_3
        try clear Y7_4
        obtain ⟨x7_1, x8_1, rfl, HA, HK1, HO_7, BK843, HB⟩ := hrel
        cases gk with
        | zero => exact absurd HA.out (by simp [vellumref04_Decode.l0])
        | succ k1 =>
          have H := HA.out
          clear HA
          simp only [vellumref04_Decode.l0] at H
          by_cases c12 : x8_1 < (l0_1.length : Int)
          · rw [if_pos c12] at H
            have c12b0 : decide (x8_1 < (l0_1.length : Int)) = true := decide_eq_true c12
            clear c12
            by_cases c13 : 0 ≤ x8_1
            · rw [if_pos c13] at H
              have c13b0 : decide (0 ≤ x8_1) = true := decide_eq_true c13
              clear c13
              by_cases c14 : x7_1.length < 17592186044416
              · rw [if_pos c14] at H
                have LMc14 := am c14
                clear c14
                obtain ⟨y846, hy846⟩ : ∃ y_ : List Int, y_ = (x7_1 ++ [(rd_T105 l0_1 x8_1).f1]) := ⟨_, rfl⟩
                replace H : (vellumref04_Decode.l0 k1 a1 y846 (wrap64 (x8_1 + 1)) a0_0 l0_1 l0_2 l0_3 l0_4) = some (r1, r2) := by first | (rw [hy846]; with_reducible exact H) | (have H2_ := (Option.bind_some _ _).symm.trans H; rw [hy846]; with_reducible exact H2_) | (have H2_ := (Option.bind_some _ _).symm.trans H; with_reducible exact H2_) | with_reducible exact H | (rw [hy846]; exact H) | exact H
                have Ny846 := am hy846
                clear hy846
                have H' := am H
                clear H
                obtain ⟨Z15_0, Z15_1, Z15_2, Z15_3, Z15_4, Y15_0, Y15_1, Y15_2, Y15_3, Y15_4⟩ := bq5 BK843
                have p845 : 0 ≤ (x8_1 : Int) := oda
                have q845 : x8_1 < (l0_1.length : Int) := oda
                obtain ⟨ad845, e845, hx845_0, hx845_1, hx845_2, hx845_3, hx845_4, hx845_5, hx845_6⟩ := at_T105 HR0_1.out x8_1 p845 q845
                cases e845
                replace hx845_0 := hc HB hx845_0
                replace hx845_1 := hc HB hx845_1
                replace hx845_2 := hc HB hx845_2
                replace hx845_3 := hc HB hx845_3
                replace hx845_4 := hc HB hx845_4
                replace hx845_5 := hc HB hx845_5
                replace hx845_6 := hc HB hx845_6
                replace p845 := eq_true p845
                replace q845 := eq_true q845
                go_wp2_with (first | ((with_reducible refine gate_builtin (b := .append) (xs := #[.tmp 26, .tmp 33]) rfl ?_); at_builtin; refine Kd.R_append (Kd.int .i64) (w0 := w) w.heap.size rfl (.tmp 26) (.tmp 33) 61 3 (.int .i64 0) 8 rfl Tryd.underlying61 info3 rfl (by decide) (by omega) u7 x7_1 ((rd_T105 l0_1 x8_1).f1) [.int .i64 ((rd_T105 l0_1 x8_1).f1)] (fun _ => True) (fun _ => False) rfl rfl ?aP (fun _ hk => hk.elim) ?aF ?aO ?aB ?aS ?aL ?_; (case aP => exact rfl); (case aB => exact (bl HB)); (case aF => exact (fun _ _ => trivial)); (case aO => exact (Kd.rr HO_7.out)); (case aS => exact (below_size (bl HB))); (case aL => have := LMc14.out; omega); intro v847 w16 ho hb hg hat; rw [← Ny846.out] at ho; have n0_ := am (blk_grown (g := gb843) (o := .cells #[.string a0_0, .slice (some ad845) l0_1.length c0_1, .slice A0_2 l0_2.length c0_2, .slice A0_3 l0_3.length c0_3, .slice A0_4 l0_4.length c0_4] 65 (0, 0)) (bk BK843) hg (Kd.R_ne HO_7.out BK843.out (by decide))); have n1_ := am (hb); have n2_ := am (ho); clear BK843; clear HB; clear HO_7; have BK843 := n0_; have HB := n1_; have HO848 := n2_; clear n0_ n1_ n2_; clear ho hb hg hat))
                go_roundg k1
                case measure => have := HK1.out; omega
                case rel => exact ⟨(y846), (wrap64 (x8_1 + 1)), eb, H', ⟨by have := HK1.out; omega⟩, ⟨Kd.rr HO848.out⟩, ⟨bk BK843⟩, ⟨bl HB⟩⟩
              · rw [if_neg c14] at H
                exact absurd H (by simp)
            · rw [if_neg c13] at H
              exact absurd H (by simp)
          · rw [if_neg c12] at H
            have c12b0 : decide (x8_1 < (l0_1.length : Int)) = false := decide_eq_false c12
            clear c12
            replace H := Option.bind_eq_some_iff.mp H
            obtain ⟨⟨t849, t850⟩, A170, H⟩ := H
            replace H : (if t850 = (a1.size : Int) then ((vellumref03_Admits.f k1 a0_0 l0_1 l0_2 l0_3 l0_4 t849).bind fun t853 => (if t853 = 0 then (some (t849, 0)) else (some (([] : List (S50)), 41)))) else (some (([] : List (S50)), 41))) = some (r1, r2) := H
            have A17 := am A170
            clear A170
            by_cases c18 : t850 = (a1.size : Int)
            · rw [if_pos c18] at H
              have c18b0 : (t850 == (a1.size : Int)) = true := beq_iff_eq.mpr c18
              have c18b1 : (t850 != (a1.size : Int)) = false := bne_eq_false_iff_eq.mpr c18
              clear c18
              replace H := Option.bind_eq_some_iff.mp H
              obtain ⟨t853, A190, H⟩ := H
              replace H : (if t853 = 0 then (some (t849, 0)) else (some (([] : List (S50)), 41))) = some (r1, r2) := H
              have A19 := am A190
              clear A190
              by_cases c20 : t853 = 0
              · rw [if_pos c20] at H
                have c20b0 : (t853 == 0) = true := beq_iff_eq.mpr c20
                have c20b1 : (t853 != 0) = false := bne_eq_false_iff_eq.mpr c20
                clear c20
                simp only [Option.some.injEq, Prod.mk.injEq] at H
                obtain ⟨rfl, rfl⟩ := H
                obtain ⟨Z21_0, Z21_1, Z21_2, Z21_3, Z21_4, Y21_0, Y21_1, Y21_2, Y21_3, Y21_4⟩ := bq5 BK843
                obtain ⟨Ao22, co22, eo22⟩ := Kd.R_slice HO_7.out
                subst eo22
                go_wp2_with (first | ((with_reducible refine gate_callee (f := 94) rfl ?_); refine goesL_ (some 38) rfl rfl Tryd.func94 (by kernel_rfl) rfl #[.slice Ao22 x7_1.length co22, .string a1] rfl ar ?_; (with_reducible refine (vellumref04_values.calls k1 _ _ x7_1 a1 t849 t850 _ ?side1 ?side2 A17.out).mono ?_); (case side1 => repeat (first | exact (Kd.R_reads' HO_7.out).2.2 | (with_reducible refine Kd.C_alloc ?_ _) | (with_reducible refine Kd.C_drewN ?_ _) | (with_reducible refine Kd.C_drew ?_))); (case side2 => exact (Kd.R_reads' HO_7.out).2.1); rintro e w23 ⟨v851, rfl, ho0, hb⟩; refine ⟨_, rfl, ?_⟩; have n0_ := am (Kd.R_below (Kd.rr HO_7.out) hb); have n1_ := am (Kd.R_lower ho0 (below_size (bl HB))); have n2_ := kb BK843 hb; have n3_ := sb HB hb; clear HO_7; clear BK843; clear HB; have HO_7 := n0_; have HO852 := n1_; have BK843 := n2_; have HB := n3_; clear n0_ n1_ n2_ n3_; (try clear hb); (try clear hb2 hk hi); (try clear ho0); obtain ⟨Z24_0, Z24_1, Z24_2, Z24_3, Z24_4, Y24_0, Y24_1, Y24_2, Y24_3, Y24_4⟩ := bq5 BK843; obtain ⟨Ao25, co25, eo25⟩ := Kd.R_slice HO852.out; subst eo25) | (go_at_call 85; (with_reducible refine (vellumref03_Admits.calls k1 a0_0 _ _ l0_1 _ _ l0_2 _ _ l0_3 _ _ l0_4 _ _ t849 t853 _ (Kd.cb HR0_1 HB) HC0_1.out (Kd.cb HR0_2 HB) HC0_2.out (Kd.cb HR0_3 HB) HC0_3.out (Kd.cb HR0_4 HB) HC0_4.out ?side9 ?side10 (Glob.below HG.out (bl HB)) A19.out).mono ?_); (case side9 => repeat (first | exact (Kd.R_reads' HO852.out).2.2 | (with_reducible refine Kd.C_alloc ?_ _) | (with_reducible refine Kd.C_drewN ?_ _) | (with_reducible refine Kd.C_drew ?_))); (case side10 => exact (Kd.R_reads' HO852.out).2.1); rintro e w26 ⟨rfl, hb⟩; have n0_ := am (Kd.R_below (Kd.rr HO_7.out) hb); have n1_ := am (Kd.R_below (Kd.rr HO852.out) hb); have n2_ := kb BK843 hb; have n3_ := sb HB hb; clear HO_7; clear HO852; clear BK843; clear HB; have HO_7 := n0_; have HO852 := n1_; have BK843 := n2_; have HB := n3_; clear n0_ n1_ n2_ n3_; (try clear hb); (try clear hb2 hk hi)))
                go_ret2
                exact ⟨_, er, Kd.rr HO852.out, bl HB⟩
              · rw [if_neg c20] at H
                have c20b0 : (t853 == 0) = false := beq_eq_false_iff_ne.mpr c20
                have c20b1 : (t853 != 0) = true := bne_iff_ne.mpr c20
                simp only [Option.some.injEq, Prod.mk.injEq] at H
                obtain ⟨rfl, rfl⟩ := H
                obtain ⟨Z27_0, Z27_1, Z27_2, Z27_3, Z27_4, Y27_0, Y27_1, Y27_2, Y27_3, Y27_4⟩ := bq5 BK843
                obtain ⟨Ao28, co28, eo28⟩ := Kd.R_slice HO_7.out
                subst eo28
                go_wp2_with (first | ((with_reducible refine gate_callee (f := 94) rfl ?_); refine goesL_ (some 38) rfl rfl Tryd.func94 (by kernel_rfl) rfl #[.slice Ao28 x7_1.length co28, .string a1] rfl ar ?_; (with_reducible refine (vellumref04_values.calls k1 _ _ x7_1 a1 t849 t850 _ ?side1 ?side2 A17.out).mono ?_); (case side1 => repeat (first | exact (Kd.R_reads' HO_7.out).2.2 | (with_reducible refine Kd.C_alloc ?_ _) | (with_reducible refine Kd.C_drewN ?_ _) | (with_reducible refine Kd.C_drew ?_))); (case side2 => exact (Kd.R_reads' HO_7.out).2.1); rintro e w29 ⟨v851, rfl, ho0, hb⟩; refine ⟨_, rfl, ?_⟩; have n0_ := am (Kd.R_below (Kd.rr HO_7.out) hb); have n1_ := am (Kd.R_lower ho0 (below_size (bl HB))); have n2_ := kb BK843 hb; have n3_ := sb HB hb; clear HO_7; clear BK843; clear HB; have HO_7 := n0_; have HO852 := n1_; have BK843 := n2_; have HB := n3_; clear n0_ n1_ n2_ n3_; (try clear hb); (try clear hb2 hk hi); (try clear ho0); obtain ⟨Z30_0, Z30_1, Z30_2, Z30_3, Z30_4, Y30_0, Y30_1, Y30_2, Y30_3, Y30_4⟩ := bq5 BK843; obtain ⟨Ao31, co31, eo31⟩ := Kd.R_slice HO852.out; subst eo31) | (go_at_call 85; (with_reducible refine (vellumref03_Admits.calls k1 a0_0 _ _ l0_1 _ _ l0_2 _ _ l0_3 _ _ l0_4 _ _ t849 t853 _ (Kd.cb HR0_1 HB) HC0_1.out (Kd.cb HR0_2 HB) HC0_2.out (Kd.cb HR0_3 HB) HC0_3.out (Kd.cb HR0_4 HB) HC0_4.out ?side9 ?side10 (Glob.below HG.out (bl HB)) A19.out).mono ?_); (case side9 => repeat (first | exact (Kd.R_reads' HO852.out).2.2 | (with_reducible refine Kd.C_alloc ?_ _) | (with_reducible refine Kd.C_drewN ?_ _) | (with_reducible refine Kd.C_drew ?_))); (case side10 => exact (Kd.R_reads' HO852.out).2.1); rintro e w32 ⟨rfl, hb⟩; have n0_ := am (Kd.R_below (Kd.rr HO_7.out) hb); have n1_ := am (Kd.R_below (Kd.rr HO852.out) hb); have n2_ := kb BK843 hb; have n3_ := sb HB hb; clear HO_7; clear HO852; clear BK843; clear HB; have HO_7 := n0_; have HO852 := n1_; have BK843 := n2_; have HB := n3_; clear n0_ n1_ n2_ n3_; (try clear hb); (try clear hb2 hk hi)))
                go_ret2
                exact ⟨_, er, by first | exact Kd.R_nil _ _ _ _ _ | exact Kd.N_nil _ _ _ _ _ | exact Kd.V_nil _ _ _ _ _ | exact Kd.Q_nil _ _ _ _ _ | exact Kd.S_nil _ _ _ _ _, bl HB⟩
            · rw [if_neg c18] at H
              have c18b0 : (t850 == (a1.size : Int)) = false := beq_eq_false_iff_ne.mpr c18
              have c18b1 : (t850 != (a1.size : Int)) = true := bne_iff_ne.mpr c18
              simp only [Option.some.injEq, Prod.mk.injEq] at H
              obtain ⟨rfl, rfl⟩ := H
              obtain ⟨Z33_0, Z33_1, Z33_2, Z33_3, Z33_4, Y33_0, Y33_1, Y33_2, Y33_3, Y33_4⟩ := bq5 BK843
              obtain ⟨Ao34, co34, eo34⟩ := Kd.R_slice HO_7.out
              subst eo34
              go_wp2_with (first | ((with_reducible refine gate_callee (f := 94) rfl ?_); refine goesL_ (some 38) rfl rfl Tryd.func94 (by kernel_rfl) rfl #[.slice Ao34 x7_1.length co34, .string a1] rfl ar ?_; (with_reducible refine (vellumref04_values.calls k1 _ _ x7_1 a1 t849 t850 _ ?side1 ?side2 A17.out).mono ?_); (case side1 => repeat (first | exact (Kd.R_reads' HO_7.out).2.2 | (with_reducible refine Kd.C_alloc ?_ _) | (with_reducible refine Kd.C_drewN ?_ _) | (with_reducible refine Kd.C_drew ?_))); (case side2 => exact (Kd.R_reads' HO_7.out).2.1); rintro e w35 ⟨v851, rfl, ho0, hb⟩; refine ⟨_, rfl, ?_⟩; have n0_ := am (Kd.R_below (Kd.rr HO_7.out) hb); have n1_ := am (Kd.R_lower ho0 (below_size (bl HB))); have n2_ := kb BK843 hb; have n3_ := sb HB hb; clear HO_7; clear BK843; clear HB; have HO_7 := n0_; have HO852 := n1_; have BK843 := n2_; have HB := n3_; clear n0_ n1_ n2_ n3_; (try clear hb); (try clear hb2 hk hi); (try clear ho0)))
              go_ret2
              exact ⟨_, er, by first | exact Kd.R_nil _ _ _ _ _ | exact Kd.N_nil _ _ _ _ _ | exact Kd.V_nil _ _ _ _ _ | exact Kd.Q_nil _ _ _ _ _ | exact Kd.S_nil _ _ _ _ _, bl HB⟩
  · rw [if_neg c4] at H
    have c4b0 : (t844 == 0) = false := beq_eq_false_iff_ne.mpr c4
    have c4b1 : (t844 != 0) = true := bne_iff_ne.mpr c4
    simp only [Option.some.injEq, Prod.mk.injEq] at H
    obtain ⟨rfl, rfl⟩ := H
    go_enter Tryd.func59, Tryd.ntmps59
    go_wp2_with (first | ((with_reducible refine gate_dst (N := 2) rfl ?_); refine box_event rfl (N := 2) rfl (cs := #[.string a0_0, .slice A0_1 l0_1.length c0_1, .slice A0_2 l0_2.length c0_2, .slice A0_3 l0_3.length c0_3, .slice A0_4 l0_4.length c0_4]) (t := 65) gs ?_; intro gb843 hg w36 hbox hb; have BK843 := am (hbox); have GW843 := gw hg HB; have GE843 := gw hg HB; replace HB := sb HB hb; clear hb hbox hg; obtain ⟨Z37_0, Z37_1, Z37_2, Z37_3, Z37_4, Y37_0, Y37_1, Y37_2, Y37_3, Y37_4⟩ := bq5 BK843) | ((with_reducible refine gate_callee (f := 93) rfl ?_); refine goesL_ (some 12) rfl rfl Tryd.func93 (by kernel_rfl) rfl #[.agg #[.string a0_0, .slice A0_1 l0_1.length c0_1, .slice A0_2 l0_2.length c0_2, .slice A0_3 l0_3.length c0_3, .slice A0_4 l0_4.length c0_4]] rfl ar ?_; (with_reducible refine (vellumref03_Check.calls k a0_0 _ _ l0_1 _ _ l0_2 _ _ l0_3 _ _ l0_4 t844 _ (Kd.cb HR0_1 HB) HC0_1.out (Kd.cb HR0_2 HB) HC0_2.out (Kd.cb HR0_3 HB) HC0_3.out (Kd.cb HR0_4 HB) HC0_4.out (Glob.below HG.out (bl HB)) A3.out).mono ?_); rintro e w38 ⟨rfl, hb⟩; refine ⟨_, rfl, ?_⟩; replace BK843 := kb BK843 hb; replace HB := sb HB hb; (try clear hb); (try clear hb2 hk hi)))
    go_ret2
    exact ⟨_, er, by first | exact Kd.R_nil _ _ _ _ _ | exact Kd.N_nil _ _ _ _ _ | exact Kd.V_nil _ _ _ _ _ | exact Kd.Q_nil _ _ _ _ _ | exact Kd.S_nil _ _ _ _ _, bl HB⟩
def vellumlaw04_RowDecodes.f (k : Nat) (a0_0 : ByteArray) (l0_1 : List (S105)) (l0_2 : List Int) (l0_3 : List (S115)) (l0_4 : List (S139)) (a1 : ByteArray) : Option (Bool) := (row_Decode.f k a0_0 l0_1 l0_2 l0_3 l0_4 a1).bind fun bt855 => ((vellumref04_Decode.f k a0_0 l0_1 l0_2 l0_3 l0_4 a1).bind fun bt859 => (if bt855.2 = bt859.2 then ((vellumref01_SameRow.f k bt855.1 bt859.1).bind fun t863 => (if t863 = true then ((vellumlaw04_awake.f k).bind fun t864 => (some t864)) else (some false))) else (some false)))
set_option maxHeartbeats 8000000 in
set_option maxRecDepth 100000 in
theorem vellumlaw04_RowDecodes.calls (k : Nat) (a0_0 : ByteArray) (A0_1 : Option Addr) (c0_1 : Nat) (l0_1 : List (S105)) (A0_2 : Option Addr) (c0_2 : Nat) (l0_2 : List Int) (A0_3 : Option Addr) (c0_3 : Nat) (l0_3 : List (S115)) (A0_4 : Option Addr) (c0_4 : Nat) (l0_4 : List (S139)) (a1 : ByteArray) (r : Bool) (w : World) (hr0_1 : Kd.C k105 w A0_1 l0_1.length l0_1) (hc0_1 : l0_1.length ≤ c0_1) (hr0_2 : Kd.C (Kd.int .i64) w A0_2 l0_2.length l0_2) (hc0_2 : l0_2.length ≤ c0_2) (hr0_3 : Kd.C k115 w A0_3 l0_3.length l0_3) (hc0_3 : l0_3.length ≤ c0_3) (hr0_4 : Kd.C k139 w A0_4 l0_4.length l0_4) (hc0_4 : l0_4.length ≤ c0_4) (hG : Glob w) (h : vellumlaw04_RowDecodes.f k a0_0 l0_1 l0_2 l0_3 l0_4 a1 = some r) :
    Calls Tryd.prog 15 #[.agg #[.string a0_0, .slice A0_1 l0_1.length c0_1, .slice A0_2 l0_2.length c0_2, .slice A0_3 l0_3.length c0_3, .slice A0_4 l0_4.length c0_4], .string a1] w fun e w' => e = .returned (.bool r) ∧ Below w.heap.size w w' := by
  have hu65 := Tryd.underlying65
  have HR0_1 := am hr0_1
  have HC0_1 := am hc0_1
  clear hr0_1 hc0_1
  have HR0_2 := am hr0_2
  have HC0_2 := am hc0_2
  clear hr0_2 hc0_2
  have HR0_3 := am hr0_3
  have HC0_3 := am hc0_3
  clear hr0_3 hc0_3
  have HR0_4 := am hr0_4
  have HC0_4 := am hc0_4
  clear hr0_4 hc0_4
  have HG := am hG
  clear hG
  have HB := am (Below.refl w.heap.size w)
  have H : ((row_Decode.f k a0_0 l0_1 l0_2 l0_3 l0_4 a1).bind fun bt855 => ((vellumref04_Decode.f k a0_0 l0_1 l0_2 l0_3 l0_4 a1).bind fun bt859 => (if bt855.2 = bt859.2 then ((vellumref01_SameRow.f k bt855.1 bt859.1).bind fun t863 => (if t863 = true then ((vellumlaw04_awake.f k).bind fun t864 => (some t864)) else (some false))) else (some false)))) = some r := h
  clear h
  replace H := Option.bind_eq_some_iff.mp H
  obtain ⟨⟨t855, t858⟩, A30, H⟩ := H
  replace H : ((vellumref04_Decode.f k a0_0 l0_1 l0_2 l0_3 l0_4 a1).bind fun bt859 => (if t858 = bt859.2 then ((vellumref01_SameRow.f k t855 bt859.1).bind fun t863 => (if t863 = true then ((vellumlaw04_awake.f k).bind fun t864 => (some t864)) else (some false))) else (some false))) = some r := H
  have A3 := am A30
  clear A30
  replace H := Option.bind_eq_some_iff.mp H
  obtain ⟨⟨t859, t862⟩, A40, H⟩ := H
  replace H : (if t858 = t862 then ((vellumref01_SameRow.f k t855 t859).bind fun t863 => (if t863 = true then ((vellumlaw04_awake.f k).bind fun t864 => (some t864)) else (some false))) else (some false)) = some r := H
  have A4 := am A40
  clear A40
  by_cases c5 : t858 = t862
  · rw [if_pos c5] at H
    have c5b0 : (t858 == t862) = true := beq_iff_eq.mpr c5
    have c5b1 : (t858 != t862) = false := bne_eq_false_iff_eq.mpr c5
    clear c5
    replace H := Option.bind_eq_some_iff.mp H
    obtain ⟨t863, A60, H⟩ := H
    replace H : (if t863 = true then ((vellumlaw04_awake.f k).bind fun t864 => (some t864)) else (some false)) = some r := H
    have A6 := am A60
    clear A60
    by_cases c7 : t863 = true
    · subst c7
      have H1 : ((vellumlaw04_awake.f k).bind fun t864 => (some t864)) = some r := by rw [if_pos rfl] at H; exact H
      clear H
      have H := H1
      clear H1
      replace H := Option.bind_eq_some_iff.mp H
      obtain ⟨t864, A80, H⟩ := H
      replace H : (some t864) = some r := H
      have A8 := am A80
      clear A80
      obtain rfl := Option.some.inj H
      go_enter Tryd.func15, Tryd.ntmps15
      go_wp2_with (first | ((with_reducible refine gate_dst (N := 2) rfl ?_); refine box_event rfl (N := 2) rfl (cs := #[.string a0_0, .slice A0_1 l0_1.length c0_1, .slice A0_2 l0_2.length c0_2, .slice A0_3 l0_3.length c0_3, .slice A0_4 l0_4.length c0_4]) (t := 65) gs ?_; intro gb854 hg w9 hbox hb; have BK854 := am (hbox); have GW854 := gw hg HB; have GE854 := gw hg HB; replace HB := sb HB hb; clear hb hbox hg; obtain ⟨Z10_0, Z10_1, Z10_2, Z10_3, Z10_4, Y10_0, Y10_1, Y10_2, Y10_3, Y10_4⟩ := bq5 BK854) | ((with_reducible refine gate_callee (f := 58) rfl ?_); refine goesL_ (some 12) rfl rfl Tryd.func58 (by kernel_rfl) rfl #[.agg #[.string a0_0, .slice A0_1 l0_1.length c0_1, .slice A0_2 l0_2.length c0_2, .slice A0_3 l0_3.length c0_3, .slice A0_4 l0_4.length c0_4], .string a1] rfl ar ?_; (with_reducible refine (row_Decode.calls k a0_0 _ _ l0_1 _ _ l0_2 _ _ l0_3 _ _ l0_4 a1 t855 t858 _ (Kd.cb HR0_1 HB) HC0_1.out (Kd.cb HR0_2 HB) HC0_2.out (Kd.cb HR0_3 HB) HC0_3.out (Kd.cb HR0_4 HB) HC0_4.out (Glob.below HG.out (bl HB)) A3.out).mono ?_); rintro e w11 ⟨v856, rfl, ho0, hb⟩; refine ⟨_, rfl, ?_⟩; have n0_ := am (Kd.R_lower ho0 (below_size (bl HB))); have n1_ := kb BK854 hb; have n2_ := sb HB hb; clear BK854; clear HB; have HO857 := n0_; have BK854 := n1_; have HB := n2_; clear n0_ n1_ n2_; (try clear hb); (try clear hb2 hk hi); (try clear ho0); obtain ⟨Z12_0, Z12_1, Z12_2, Z12_3, Z12_4, Y12_0, Y12_1, Y12_2, Y12_3, Y12_4⟩ := bq5 BK854) | ((with_reducible refine gate_callee (f := 59) rfl ?_); refine goesL_ (some 18) rfl rfl Tryd.func59 (by kernel_rfl) rfl #[.agg #[.string a0_0, .slice A0_1 l0_1.length c0_1, .slice A0_2 l0_2.length c0_2, .slice A0_3 l0_3.length c0_3, .slice A0_4 l0_4.length c0_4], .string a1] rfl ar ?_; (with_reducible refine (vellumref04_Decode.calls k a0_0 _ _ l0_1 _ _ l0_2 _ _ l0_3 _ _ l0_4 a1 t859 t862 _ (Kd.cb HR0_1 HB) HC0_1.out (Kd.cb HR0_2 HB) HC0_2.out (Kd.cb HR0_3 HB) HC0_3.out (Kd.cb HR0_4 HB) HC0_4.out (Glob.below HG.out (bl HB)) A4.out).mono ?_); rintro e w13 ⟨v860, rfl, ho0, hb⟩; refine ⟨_, rfl, ?_⟩; have n0_ := am (Kd.R_elder' (Kd.rr HO857.out) (Kd.R_base ho0) hb); have n1_ := am (Kd.R_lower (Kd.R_new' ho0 (Kd.R_lt (Kd.rr HO857.out))) (below_size (bl HB))); have n2_ := kb BK854 hb; have n3_ := sb HB hb; clear HO857; clear BK854; clear HB; have HO857 := n0_; have HO861 := n1_; have BK854 := n2_; have HB := n3_; clear n0_ n1_ n2_ n3_; (try clear hb); (try clear hb2 hk hi); (try clear ho0); obtain ⟨Ao14, co14, eo14⟩ := Kd.R_slice HO857.out; subst eo14; obtain ⟨Ao15, co15, eo15⟩ := Kd.R_slice HO861.out; subst eo15) | (go_at_call 45; (with_reducible refine (vellumref01_SameRow.calls k _ _ t855 _ _ t859 true _ ?side1 ?side2 ?side3 ?side4 A6.out).mono ?_); (case side1 => repeat (first | exact (Kd.R_reads' HO857.out).2.2 | (with_reducible refine Kd.C_alloc ?_ _) | (with_reducible refine Kd.C_drewN ?_ _) | (with_reducible refine Kd.C_drew ?_))); (case side2 => exact (Kd.R_reads' HO857.out).2.1); (case side3 => repeat (first | exact (Kd.R_reads' HO861.out).2.2 | (with_reducible refine Kd.C_alloc ?_ _) | (with_reducible refine Kd.C_drewN ?_ _) | (with_reducible refine Kd.C_drew ?_))); (case side4 => exact (Kd.R_reads' HO861.out).2.1); rintro e w16 ⟨rfl, hb⟩; have n0_ := am (Kd.R_below (Kd.rr HO857.out) hb); have n1_ := am (Kd.R_below (Kd.rr HO861.out) hb); have n2_ := kb BK854 hb; have n3_ := sb HB hb; clear HO857; clear HO861; clear BK854; clear HB; have HO857 := n0_; have HO861 := n1_; have BK854 := n2_; have HB := n3_; clear n0_ n1_ n2_ n3_; (try clear hb); (try clear hb2 hk hi)) | (go_at_call 54; (with_reducible refine (vellumlaw04_awake.calls k  t864 _ (Glob.below HG.out (bl HB)) A8.out).mono ?_); rintro e w17 ⟨rfl, hb⟩; have n0_ := am (Kd.R_below (Kd.rr HO857.out) hb); have n1_ := am (Kd.R_below (Kd.rr HO861.out) hb); have n2_ := kb BK854 hb; have n3_ := sb HB hb; clear HO857; clear HO861; clear BK854; clear HB; have HO857 := n0_; have HO861 := n1_; have BK854 := n2_; have HB := n3_; clear n0_ n1_ n2_ n3_; (try clear hb); (try clear hb2 hk hi)))
      go_ret
      exact ⟨er, bl HB⟩
    · replace c7 := Bool.eq_false_iff.mpr c7
      subst c7
      have H1 : (some false) = some r := by rw [if_neg (show ¬ (false = true) by decide)] at H; exact H
      clear H
      have H := H1
      clear H1
      obtain rfl := Option.some.inj H
      go_enter Tryd.func15, Tryd.ntmps15
      go_wp2_with (first | ((with_reducible refine gate_dst (N := 2) rfl ?_); refine box_event rfl (N := 2) rfl (cs := #[.string a0_0, .slice A0_1 l0_1.length c0_1, .slice A0_2 l0_2.length c0_2, .slice A0_3 l0_3.length c0_3, .slice A0_4 l0_4.length c0_4]) (t := 65) gs ?_; intro gb854 hg w18 hbox hb; have BK854 := am (hbox); have GW854 := gw hg HB; have GE854 := gw hg HB; replace HB := sb HB hb; clear hb hbox hg; obtain ⟨Z19_0, Z19_1, Z19_2, Z19_3, Z19_4, Y19_0, Y19_1, Y19_2, Y19_3, Y19_4⟩ := bq5 BK854) | ((with_reducible refine gate_callee (f := 58) rfl ?_); refine goesL_ (some 12) rfl rfl Tryd.func58 (by kernel_rfl) rfl #[.agg #[.string a0_0, .slice A0_1 l0_1.length c0_1, .slice A0_2 l0_2.length c0_2, .slice A0_3 l0_3.length c0_3, .slice A0_4 l0_4.length c0_4], .string a1] rfl ar ?_; (with_reducible refine (row_Decode.calls k a0_0 _ _ l0_1 _ _ l0_2 _ _ l0_3 _ _ l0_4 a1 t855 t858 _ (Kd.cb HR0_1 HB) HC0_1.out (Kd.cb HR0_2 HB) HC0_2.out (Kd.cb HR0_3 HB) HC0_3.out (Kd.cb HR0_4 HB) HC0_4.out (Glob.below HG.out (bl HB)) A3.out).mono ?_); rintro e w20 ⟨v856, rfl, ho0, hb⟩; refine ⟨_, rfl, ?_⟩; have n0_ := am (Kd.R_lower ho0 (below_size (bl HB))); have n1_ := kb BK854 hb; have n2_ := sb HB hb; clear BK854; clear HB; have HO857 := n0_; have BK854 := n1_; have HB := n2_; clear n0_ n1_ n2_; (try clear hb); (try clear hb2 hk hi); (try clear ho0); obtain ⟨Z21_0, Z21_1, Z21_2, Z21_3, Z21_4, Y21_0, Y21_1, Y21_2, Y21_3, Y21_4⟩ := bq5 BK854) | ((with_reducible refine gate_callee (f := 59) rfl ?_); refine goesL_ (some 18) rfl rfl Tryd.func59 (by kernel_rfl) rfl #[.agg #[.string a0_0, .slice A0_1 l0_1.length c0_1, .slice A0_2 l0_2.length c0_2, .slice A0_3 l0_3.length c0_3, .slice A0_4 l0_4.length c0_4], .string a1] rfl ar ?_; (with_reducible refine (vellumref04_Decode.calls k a0_0 _ _ l0_1 _ _ l0_2 _ _ l0_3 _ _ l0_4 a1 t859 t862 _ (Kd.cb HR0_1 HB) HC0_1.out (Kd.cb HR0_2 HB) HC0_2.out (Kd.cb HR0_3 HB) HC0_3.out (Kd.cb HR0_4 HB) HC0_4.out (Glob.below HG.out (bl HB)) A4.out).mono ?_); rintro e w22 ⟨v860, rfl, ho0, hb⟩; refine ⟨_, rfl, ?_⟩; have n0_ := am (Kd.R_elder' (Kd.rr HO857.out) (Kd.R_base ho0) hb); have n1_ := am (Kd.R_lower (Kd.R_new' ho0 (Kd.R_lt (Kd.rr HO857.out))) (below_size (bl HB))); have n2_ := kb BK854 hb; have n3_ := sb HB hb; clear HO857; clear BK854; clear HB; have HO857 := n0_; have HO861 := n1_; have BK854 := n2_; have HB := n3_; clear n0_ n1_ n2_ n3_; (try clear hb); (try clear hb2 hk hi); (try clear ho0); obtain ⟨Ao23, co23, eo23⟩ := Kd.R_slice HO857.out; subst eo23; obtain ⟨Ao24, co24, eo24⟩ := Kd.R_slice HO861.out; subst eo24) | (go_at_call 45; (with_reducible refine (vellumref01_SameRow.calls k _ _ t855 _ _ t859 false _ ?side1 ?side2 ?side3 ?side4 A6.out).mono ?_); (case side1 => repeat (first | exact (Kd.R_reads' HO857.out).2.2 | (with_reducible refine Kd.C_alloc ?_ _) | (with_reducible refine Kd.C_drewN ?_ _) | (with_reducible refine Kd.C_drew ?_))); (case side2 => exact (Kd.R_reads' HO857.out).2.1); (case side3 => repeat (first | exact (Kd.R_reads' HO861.out).2.2 | (with_reducible refine Kd.C_alloc ?_ _) | (with_reducible refine Kd.C_drewN ?_ _) | (with_reducible refine Kd.C_drew ?_))); (case side4 => exact (Kd.R_reads' HO861.out).2.1); rintro e w25 ⟨rfl, hb⟩; have n0_ := am (Kd.R_below (Kd.rr HO857.out) hb); have n1_ := am (Kd.R_below (Kd.rr HO861.out) hb); have n2_ := kb BK854 hb; have n3_ := sb HB hb; clear HO857; clear HO861; clear BK854; clear HB; have HO857 := n0_; have HO861 := n1_; have BK854 := n2_; have HB := n3_; clear n0_ n1_ n2_ n3_; (try clear hb); (try clear hb2 hk hi)))
      go_ret
      exact ⟨er, bl HB⟩
  · rw [if_neg c5] at H
    have c5b0 : (t858 == t862) = false := beq_eq_false_iff_ne.mpr c5
    have c5b1 : (t858 != t862) = true := bne_iff_ne.mpr c5
    obtain rfl := Option.some.inj H
    go_enter Tryd.func15, Tryd.ntmps15
    go_wp2_with (first | ((with_reducible refine gate_dst (N := 2) rfl ?_); refine box_event rfl (N := 2) rfl (cs := #[.string a0_0, .slice A0_1 l0_1.length c0_1, .slice A0_2 l0_2.length c0_2, .slice A0_3 l0_3.length c0_3, .slice A0_4 l0_4.length c0_4]) (t := 65) gs ?_; intro gb854 hg w26 hbox hb; have BK854 := am (hbox); have GW854 := gw hg HB; have GE854 := gw hg HB; replace HB := sb HB hb; clear hb hbox hg; obtain ⟨Z27_0, Z27_1, Z27_2, Z27_3, Z27_4, Y27_0, Y27_1, Y27_2, Y27_3, Y27_4⟩ := bq5 BK854) | ((with_reducible refine gate_callee (f := 58) rfl ?_); refine goesL_ (some 12) rfl rfl Tryd.func58 (by kernel_rfl) rfl #[.agg #[.string a0_0, .slice A0_1 l0_1.length c0_1, .slice A0_2 l0_2.length c0_2, .slice A0_3 l0_3.length c0_3, .slice A0_4 l0_4.length c0_4], .string a1] rfl ar ?_; (with_reducible refine (row_Decode.calls k a0_0 _ _ l0_1 _ _ l0_2 _ _ l0_3 _ _ l0_4 a1 t855 t858 _ (Kd.cb HR0_1 HB) HC0_1.out (Kd.cb HR0_2 HB) HC0_2.out (Kd.cb HR0_3 HB) HC0_3.out (Kd.cb HR0_4 HB) HC0_4.out (Glob.below HG.out (bl HB)) A3.out).mono ?_); rintro e w28 ⟨v856, rfl, ho0, hb⟩; refine ⟨_, rfl, ?_⟩; have n0_ := am (Kd.R_lower ho0 (below_size (bl HB))); have n1_ := kb BK854 hb; have n2_ := sb HB hb; clear BK854; clear HB; have HO857 := n0_; have BK854 := n1_; have HB := n2_; clear n0_ n1_ n2_; (try clear hb); (try clear hb2 hk hi); (try clear ho0); obtain ⟨Z29_0, Z29_1, Z29_2, Z29_3, Z29_4, Y29_0, Y29_1, Y29_2, Y29_3, Y29_4⟩ := bq5 BK854) | ((with_reducible refine gate_callee (f := 59) rfl ?_); refine goesL_ (some 18) rfl rfl Tryd.func59 (by kernel_rfl) rfl #[.agg #[.string a0_0, .slice A0_1 l0_1.length c0_1, .slice A0_2 l0_2.length c0_2, .slice A0_3 l0_3.length c0_3, .slice A0_4 l0_4.length c0_4], .string a1] rfl ar ?_; (with_reducible refine (vellumref04_Decode.calls k a0_0 _ _ l0_1 _ _ l0_2 _ _ l0_3 _ _ l0_4 a1 t859 t862 _ (Kd.cb HR0_1 HB) HC0_1.out (Kd.cb HR0_2 HB) HC0_2.out (Kd.cb HR0_3 HB) HC0_3.out (Kd.cb HR0_4 HB) HC0_4.out (Glob.below HG.out (bl HB)) A4.out).mono ?_); rintro e w30 ⟨v860, rfl, ho0, hb⟩; refine ⟨_, rfl, ?_⟩; have n0_ := am (Kd.R_elder' (Kd.rr HO857.out) (Kd.R_base ho0) hb); have n1_ := am (Kd.R_lower (Kd.R_new' ho0 (Kd.R_lt (Kd.rr HO857.out))) (below_size (bl HB))); have n2_ := kb BK854 hb; have n3_ := sb HB hb; clear HO857; clear BK854; clear HB; have HO857 := n0_; have HO861 := n1_; have BK854 := n2_; have HB := n3_; clear n0_ n1_ n2_ n3_; (try clear hb); (try clear hb2 hk hi); (try clear ho0)))
    go_ret
    exact ⟨er, bl HB⟩
end Go.Proofs.YtpiifdbicibelaaDoor.PA
end
section
namespace Go.Proofs.YtpiifdbicibelaaDoor.Pure
open Go.RowKit Go.Proofs Go.Proofs.YtpiifdbicibelaaDoorW.PrintWords Go.Proofs.YtpiifdbicibelaaDoorW.PrintLast Go.Proofs.YtpiifdbicibelaaDoorW.PrintMore Go.Proofs.YtpiifdbicibelaaDoor.PA Go.Proofs.YtpiifdbicibelaaDoor.OpenK
set_option linter.unusedVariables false
set_option linter.unusedSimpArgs false
abbrev R3 := List S50 × ByteArray × Bool
def kindsOf (cs : List S105) : List Int := cs.map fun c => c.f1
def decSpec (cs : List S105) (acc : List S50) (o : Option (List S50 × List Int)) (r : R3) : Prop :=
  match o with
  | none => r.2.2 = false
  | some (vs, R) => if admRow cs vs = 0 then r = (acc ++ vs, strOfNums R, true) else r.2.2 = false
theorem mk_get {H : List Int} {i : Nat} (h : i / 4 < H.length) : mk H i = (H[i / 4] / 4 ^ (i % 4)) % 4 := by
  unfold mk; simp [List.getD, List.getElem?_eq_getElem h]
theorem mark_read {H : List Int} (hH : Bytes H) {i : Nat} (h : i / 4 < H.length) : Go.bits .and .u8 (shr .u8 (bt (strOfNums H) ((i / 4 : Nat) : Int)) ((2 * (i % 4) : Nat) : Int)) 3 = mk H i := by
  rw [str_bt hH (i / 4) h, and3 _ _ (hH _ (List.getElem_mem h)) (Nat.mod_lt _ (by decide)), mk_get h]
theorem rd105_get (cs : List S105) (i : Nat) (h : i < cs.length) : rd_T105 cs (i : Int) = cs[i] := by
  unfold rd_T105; simp [List.getD, List.getElem?_eq_getElem h]
theorem dec_l1 (cs : List S105) (hcs : cs.length ≤ 64) (hk : ∀ c ∈ cs, 1 ≤ c.f1 ∧ c.f1 ≤ 5) (H : List Int) (hH : Bytes H) (hHl : H.length = (cs.length + 3) / 4) : ∀ (m i : Nat) (acc : List S50) (L : List Int), i + m = cs.length → acc.length ≤ i → Bytes L → L.length ≤ 65536 →
    ∃ r, Ev (fun k => row_decode.l1 k (strOfNums L) (strOfNums H) acc cs (cs.length : Int) (i : Int)) r ∧ decSpec (cs.drop i) acc (rowV (kindsOf (cs.drop i)) H i L) r
  | 0, i, acc, L, hm, ha, hL, hlen => by
    refine ⟨(acc, strOfNums L, true), Ev.from_ 1 fun k => ?_, ?_⟩
    · simp only [row_decode.l1]
      rw [if_neg (by omega)]
    · rw [List.drop_of_length_le (by omega)]
      show decSpec [] acc (some ([], L)) _
      simp [decSpec, admRow]
  | m + 1, i, acc, L, hm, ha, hL, hlen => by
    have hlt : i < cs.length := by omega
    have hc := hk _ (List.getElem_mem hlt)
    have hdiv : i / 4 < H.length := by omega
    obtain ⟨rg, g1, g2⟩ := get_code (c := cs[i]) hc (mk H i) (mk_range H i) L hL hlen
    have h1 : True → wrap64 ((i : Int) + 1) = ((i + 1 : Nat) : Int) := fun _ => wrap_one i (by omega)
    have h4 : True → wrap64 (Int.tdiv (i : Int) 4) = ((i / 4 : Nat) : Int) := fun _ => by rw [tdiv4]; exact wrap64_id (by omega) (by omega)
    have h2 : True → wrap64 (2 * (Int.tmod (i : Int) 4)) = ((2 * (i % 4) : Nat) : Int) := fun _ => by rw [tmod4, wrap64_id (by omega) (by omega)]; omega
    have hmr := mark_read hH hdiv
    have hds : cs.drop i = cs[i] :: cs.drop (i + 1) := List.drop_eq_getElem_cons hlt
    have step : ∀ k, row_decode.l1 (k + 1) (strOfNums L) (strOfNums H) acc cs (cs.length : Int) (i : Int) = (row_get.f k cs[i].f0 cs[i].f1 cs[i].f2 cs[i].f3.f0 cs[i].f3.f1 cs[i].f3.f2 cs[i].f3.f3 (mk H i) (strOfNums L)).bind fun bt812 => (if bt812.2.2.2.2.2 = true then (if acc.length < 3518437208883 then (row_decode.l1 k bt812.2.2.2.2.1 (strOfNums H) (acc ++ [(⟨bt812.1, bt812.2.1, bt812.2.2.1, bt812.2.2.2.1⟩ : S50)]) cs (cs.length : Int) ((i + 1 : Nat) : Int)) else (none)) else (some (([] : List (S50)), (⟨#[]⟩ : ByteArray), false))) := by
      intro k
      simp only [row_decode.l1, h1 trivial, h4 trivial, h2 trivial, str_size]
      rw [if_pos (by omega), if_pos (by omega), if_pos (by omega), if_pos (by omega), if_pos (by omega), if_pos (by omega), hmr, rd105_get cs i hlt]
    rw [hds]
    have fails : rg.2.2.2.2.2 = false → Ev (fun k => row_decode.l1 k (strOfNums L) (strOfNums H) acc cs (cs.length : Int) (i : Int)) (([] : List (S50)), (⟨#[]⟩ : ByteArray), false) := fun hf =>
      Ev.step step (Ev.bind g1 (Ev.neg (by rw [hf]; decide) Ev.pure))
    simp only [kindsOf, List.map_cons, rowV]
    cases hv : valR cs[i].f1 (mk H i) L with
    | none =>
      rw [hv] at g2
      exact ⟨_, fails g2, rfl⟩
    | some p =>
      obtain ⟨v, R⟩ := p
      rw [hv] at g2
      simp only [getSpec] at g2
      have hR : Bytes R ∧ R.length ≤ 65536 := by
        obtain ⟨e, _⟩ := valR_sound hc (mk_range H i).1 hL hlen hv
        have := valR_len hv
        rw [e] at hL
        exact ⟨hL.app.2, by omega⟩
      by_cases hf : fitB cs[i] v = true
      · rw [if_pos hf] at g2
        subst g2
        obtain ⟨r, r1, r2⟩ := dec_l1 cs hcs hk H hH hHl m (i + 1) (acc ++ [v]) R (by omega) (by simp; omega) hR.1 hR.2
        refine ⟨r, Ev.step step (Ev.bind g1 (Ev.pos rfl (Ev.pos (by omega) r1))), ?_⟩
        simp only [kindsOf] at r2
        simp only
        cases hw : rowV ((cs.drop (i + 1)).map fun c => c.f1) H (i + 1) R with
        | none => rw [hw] at r2; exact r2
        | some q =>
          obtain ⟨vs, R'⟩ := q
          rw [hw] at r2
          simp only [decSpec] at r2 ⊢
          by_cases ha : admRow (cs.drop (i + 1)) vs = 0
          · rw [if_pos ha] at r2
            rw [if_pos ((admRow_cons _ _ _ _).2 ⟨hf, ha⟩), r2, List.append_assoc]; rfl
          · rw [if_neg ha] at r2
            rw [if_neg (fun h => ha ((admRow_cons _ _ _ _).1 h).2)]
            exact r2
      · rw [if_neg hf] at g2
        refine ⟨_, fails g2, ?_⟩
        simp only
        cases hw : rowV ((cs.drop (i + 1)).map fun c => c.f1) H (i + 1) R with
        | none => rfl
        | some q =>
          obtain ⟨vs, R'⟩ := q
          simp only [decSpec]
          rw [if_neg (fun h => hf ((admRow_cons _ _ _ _).1 h).1)]
          trivial
theorem dec_l0 (cs : List S105) (hcs : cs.length ≤ 64) (H : List Int) (hH : Bytes H) (hHl : H.length = (cs.length + 3) / 4) (L : List Int) (r : R3) (hr : Ev (fun k => row_decode.l1 k (strOfNums L) (strOfNums H) [] cs (cs.length : Int) 0) r) : ∀ (m i : Nat), i + m = 4 * ((cs.length + 3) / 4) →
    Ev (fun k => row_decode.l0 k cs (strOfNums L) (((cs.length + 3) / 4 : Nat) : Int) (strOfNums H) (i : Int)) (if padOk H i m = true then r else (([] : List (S50)), (⟨#[]⟩ : ByteArray), false))
  | 0, i, hm => by
    rw [if_pos (show padOk H i 0 = true from rfl)]
    refine Ev.step (fun k => ?_) hr
    have h4 : True → wrap64 (4 * (((cs.length + 3) / 4 : Nat) : Int)) = ((4 * ((cs.length + 3) / 4) : Nat) : Int) := fun _ => by rw [wrap64_id (by omega) (by omega)]; omega
    simp only [row_decode.l0, h4 trivial]
    rw [if_neg (by omega)]
  | m + 1, i, hm => by
    have hdiv : i / 4 < H.length := by omega
    have h0 : True → wrap64 (4 * (((cs.length + 3) / 4 : Nat) : Int)) = ((4 * ((cs.length + 3) / 4) : Nat) : Int) := fun _ => by rw [wrap64_id (by omega) (by omega)]; omega
    have h1 : True → wrap64 ((i : Int) + 1) = ((i + 1 : Nat) : Int) := fun _ => wrap_one i (by omega)
    have h4 : True → wrap64 (Int.tdiv (i : Int) 4) = ((i / 4 : Nat) : Int) := fun _ => by rw [tdiv4]; exact wrap64_id (by omega) (by omega)
    have h2 : True → wrap64 (2 * (Int.tmod (i : Int) 4)) = ((2 * (i % 4) : Nat) : Int) := fun _ => by rw [tmod4, wrap64_id (by omega) (by omega)]; omega
    have hmr := mark_read hH hdiv
    refine Ev.step (g := fun k => if mk H i = 0 then row_decode.l0 k cs (strOfNums L) (((cs.length + 3) / 4 : Nat) : Int) (strOfNums H) ((i + 1 : Nat) : Int) else some (([] : List (S50)), (⟨#[]⟩ : ByteArray), false)) (fun k => ?_) ?_
    · simp only [row_decode.l0, h0 trivial, h1 trivial, h4 trivial, h2 trivial, str_size]
      rw [if_pos (by omega), if_pos (by omega), if_pos (by omega), if_pos (by omega), hmr]
    · have ih := dec_l0 cs hcs H hH hHl L r hr m (i + 1) (by omega)
      by_cases hz : mk H i = 0
      · refine Ev.pos hz ?_
        have e : padOk H i (m + 1) = padOk H (i + 1) m := by
          show (mk H i == 0 && padOk H (i + 1) m) = _
          rw [hz]; rfl
        rw [e]; exact ih
      · refine Ev.neg hz ?_
        have hz2 : (mk H i == 0) = false := by simpa using hz
        have e : padOk H i (m + 1) = false := by
          show (mk H i == 0 && padOk H (i + 1) m) = _
          rw [hz2]; rfl
        rw [if_neg (by rw [e]; decide)]; exact Ev.pure
theorem decode_ev4 (cs : List S105) (hcs : cs.length ≤ 64) (hk : ∀ c ∈ cs, 1 ≤ c.f1 ∧ c.f1 ≤ 5) (L : List Int) (hL : Bytes L) (hlen : L.length ≤ 65536) :
    ∃ r, Ev (fun k => row_decode.f k cs (strOfNums L)) r ∧ decSpec cs [] (rowR (kindsOf cs) L) r := by
  have e1 : wrap64 (Int.tdiv (wrap64 ((wrap64 (2 * (cs.length : Int))) + 7)) 8) = (((cs.length + 3) / 4 : Nat) : Int) := by
    rw [wrap64_id (n := 2 * (cs.length : Int)) (by omega) (by omega), wrap64_id (n := 2 * (cs.length : Int) + 7) (by omega) (by omega)]
    have e : Int.tdiv (2 * (cs.length : Int) + 7) 8 = (((2 * cs.length + 7) / 8 : Nat) : Int) := rfl
    rw [e, wrap64_id (by omega) (by omega)]; omega
  have hkl : (kindsOf cs).length = cs.length := by simp [kindsOf]
  simp only [row_decode.f, e1, str_size, rowR, hkl]
  by_cases hn : L.length < (cs.length + 3) / 4
  · rw [if_pos hn]
    exact ⟨_, Ev.pos (by omega) Ev.pure, rfl⟩
  · rw [if_neg hn]
    have hH : Bytes (L.take ((cs.length + 3) / 4)) := hL.take _
    have hHl : (L.take ((cs.length + 3) / 4)).length = (cs.length + 3) / 4 := by rw [List.length_take]; omega
    have hD : Bytes (L.drop ((cs.length + 3) / 4)) := hL.drop _
    have x1 : (strOfNums L).extract ((((cs.length + 3) / 4 : Nat) : Int)).toNat L.length = strOfNums (L.drop ((cs.length + 3) / 4)) := str_drop' L _
    have x2 : (strOfNums L).extract 0 ((((cs.length + 3) / 4 : Nat) : Int)).toNat = strOfNums (L.take ((cs.length + 3) / 4)) := by
      rw [str_take, Int.toNat_natCast]; rfl
    obtain ⟨r, r1, r2⟩ := dec_l1 cs hcs hk _ hH hHl cs.length 0 [] _ (by omega) (by simp) hD (by rw [List.length_drop]; omega)
    have h0 := dec_l0 cs hcs _ hH hHl _ r r1 (4 * ((cs.length + 3) / 4) - cs.length) cs.length (by omega)
    refine ⟨_, Ev.neg (by omega) (Ev.pos (by omega) (Ev.pos (by omega) (by rw [x1, x2]; exact h0))), ?_⟩
    by_cases hp : padOk (L.take ((cs.length + 3) / 4)) cs.length (4 * ((cs.length + 3) / 4) - cs.length) = true
    · rw [if_pos hp, if_pos hp]
      simpa using r2
    · rw [if_neg hp, if_neg hp]; rfl
def valsSpec (len : Nat) (acc : List S50) (o : Option (List S50 × List Int)) (r : List S50 × Int) : Prop :=
  match o with
  | none => r = ([], -1)
  | some (vs, R) => r = (acc ++ vs, ((len - R.length : Nat) : Int)) ∧ R.length ≤ len
theorem rdk_get {ks : List Int} {i : Nat} (h : i < ks.length) : rd ks (i : Int) = ks[i] := rd_int h
theorem mk_take {L : List Int} {n i : Nat} (h : i / 4 < n) : mk (L.take n) i = mk L i := by
  unfold mk
  have : (L.take n).getD (i / 4) 0 = L.getD (i / 4) 0 := by
    simp only [List.getD, List.getElem?_take, if_pos h]
  rw [this]
theorem mark_read' {L : List Int} (hL : Bytes L) {i n : Nat} (h : i / 4 < n) (hn : n ≤ L.length) : Go.bits .and .u8 (shr .u8 (bt (strOfNums L) ((i / 4 : Nat) : Int)) ((2 * (i % 4) : Nat) : Int)) 3 = mk (L.take n) i := by
  rw [mk_take h]
  exact mark_read hL (by omega)
theorem valR_rest {kind m : Int} {L : List Int} {v : S50} {R : List Int} (hk : 1 ≤ kind ∧ kind ≤ 5) (hm : 0 ≤ m) (hL : Bytes L) (hlen : L.length ≤ 65536) (h : valR kind m L = some (v, R)) : R = L.drop (L.length - R.length) := by
  obtain ⟨e, _⟩ := valR_sound hk hm hL hlen h
  have hl := congrArg List.length e
  rw [List.length_append] at hl
  have e2 : L.length - R.length = (toldB v).length := by omega
  rw [e2]
  conv => rhs; rw [e]
  simp
theorem vals_l1 (ks : List Int) (hks : ks.length ≤ 64) (hk : ∀ k ∈ ks, 1 ≤ k ∧ k ≤ 5) (L : List Int) (hL : Bytes L) (hlen : L.length ≤ 65536) (hn : (ks.length + 3) / 4 ≤ L.length) : ∀ (m i : Nat) (acc : List S50) (at_ : Nat), i + m = ks.length → acc.length ≤ i → at_ ≤ L.length →
    ∃ r, Ev (fun k => vellumref04_values.l1 k ks (strOfNums L) (at_ : Int) acc (i : Int)) r ∧ valsSpec L.length acc (rowV (ks.drop i) (L.take ((ks.length + 3) / 4)) i (L.drop at_)) r
  | 0, i, acc, at_, hm, ha, hat => by
    refine ⟨(acc, (at_ : Int)), Ev.from_ 1 fun k => ?_, ?_⟩
    · simp only [vellumref04_values.l1]
      rw [if_neg (by omega)]
    · rw [List.drop_of_length_le (by omega)]
      simp only [rowV, valsSpec, List.append_nil, List.length_drop]
      have : L.length - (L.length - at_) = at_ := by omega
      rw [this]
      exact ⟨rfl, by omega⟩
  | m + 1, i, acc, at_, hm, ha, hat => by
    have hlt : i < ks.length := by omega
    have hc := hk _ (List.getElem_mem hlt)
    have hD : Bytes (L.drop at_) := hL.drop _
    have hdl : (L.drop at_).length = L.length - at_ := List.length_drop
    obtain ⟨rg, g1, g2⟩ := value_ref (kind := ks[i]) hc (mk (L.take ((ks.length + 3) / 4)) i) (mk_range _ i) (L.drop at_) hD (by omega)
    have h1 : True → wrap64 ((i : Int) + 1) = ((i + 1 : Nat) : Int) := fun _ => wrap_one i (by omega)
    have h4 : True → wrap64 (Int.tdiv (i : Int) 4) = ((i / 4 : Nat) : Int) := fun _ => by rw [tdiv4]; exact wrap64_id (by omega) (by omega)
    have h2 : True → IntKind.u64.wrap (wrap64 ((Int.tmod (i : Int) 4) * 2)) = ((2 * (i % 4) : Nat) : Int) := fun _ => by rw [tmod4, wrap64_id (by omega) (by omega), u64_wrap_id (by omega) (by omega)]; omega
    have hmr := mark_read' (L := L) (i := i) (n := (ks.length + 3) / 4) hL (by omega) hn
    have hx : (strOfNums L).extract (((at_ : Nat) : Int)).toNat L.length = strOfNums (L.drop at_) := str_drop' L at_
    have step : ∀ k, vellumref04_values.l1 (k + 1) ks (strOfNums L) (at_ : Int) acc (i : Int) = (vellumref04_value.f k ks[i] (mk (L.take ((ks.length + 3) / 4)) i) (strOfNums (L.drop at_))).bind fun bt834 => (if bt834.2.2.2.2 < 0 then (some (([] : List (S50)), (-1))) else (if acc.length < 3518437208883 then (vellumref04_values.l1 k ks (strOfNums L) (wrap64 ((at_ : Int) + bt834.2.2.2.2)) (acc ++ [(⟨bt834.1, bt834.2.1, bt834.2.2.1, bt834.2.2.2.1⟩ : S50)]) ((i + 1 : Nat) : Int)) else (none))) := by
      intro k
      simp only [vellumref04_values.l1, h1 trivial, h4 trivial, h2 trivial, str_size]
      rw [if_pos (by omega), if_pos (by omega), if_pos (by omega), if_pos (by omega), if_pos (by omega), if_pos (by omega), if_pos (by omega), hmr, hx, rdk_get hlt]
    rw [List.drop_eq_getElem_cons hlt]
    simp only [rowV]
    cases hv : valR ks[i] (mk (L.take ((ks.length + 3) / 4)) i) (L.drop at_) with
    | none =>
      rw [hv] at g2
      refine ⟨_, Ev.step step (Ev.bind g1 (Ev.pos (by rw [show rg.2.2.2.2 = -1 from g2]; decide) Ev.pure)), rfl⟩
    | some p =>
      obtain ⟨v, R⟩ := p
      rw [hv] at g2
      have g2 : rg = _ := g2
      subst g2
      have hR := valR_rest hc (mk_range _ i).1 hD (by omega) hv
      have hRl := valR_len hv
      have e1 : True → wrap64 ((at_ : Int) + (((L.drop at_).length - R.length : Nat) : Int)) = ((at_ + ((L.drop at_).length - R.length) : Nat) : Int) := fun _ => by rw [wrap64_id (by omega) (by omega)]; omega
      have hR2 : L.drop (at_ + ((L.drop at_).length - R.length)) = R := by
        rw [← List.drop_drop, ← hR]
      obtain ⟨r, r1, r2⟩ := vals_l1 ks hks hk L hL hlen hn m (i + 1) (acc ++ [v]) (at_ + ((L.drop at_).length - R.length)) (by omega) (by simp; omega) (by omega)
      rw [hR2] at r2
      refine ⟨r, Ev.step step (Ev.bind g1 (Ev.neg (by show ¬ (((L.drop at_).length - R.length : Nat) : Int) < 0; omega) (Ev.pos (by omega) ?_))), ?_⟩
      · simp only [e1 trivial]
        exact r1
      · simp only
        cases hw : rowV (ks.drop (i + 1)) (L.take ((ks.length + 3) / 4)) (i + 1) R with
        | none => rw [hw] at r2; exact r2
        | some q =>
          obtain ⟨vs, R'⟩ := q
          rw [hw] at r2
          simp only [valsSpec] at r2 ⊢
          rw [r2.1, List.append_assoc]
          exact ⟨rfl, r2.2⟩
theorem vals_l0 (ks : List Int) (hks : ks.length ≤ 64) (L : List Int) (hL : Bytes L) (hlen : L.length ≤ 65536) (hn : (ks.length + 3) / 4 ≤ L.length) (r : List S50 × Int) (hr : Ev (fun k => vellumref04_values.l1 k ks (strOfNums L) (((ks.length + 3) / 4 : Nat) : Int) [] 0) r) : ∀ (m i : Nat), i + m = 4 * ((ks.length + 3) / 4) →
    Ev (fun k => vellumref04_values.l0 k ks (strOfNums L) (((ks.length + 3) / 4 : Nat) : Int) (i : Int)) (if padOk (L.take ((ks.length + 3) / 4)) i m = true then r else (([] : List (S50)), -1))
  | 0, i, hm => by
    rw [if_pos (show padOk (L.take ((ks.length + 3) / 4)) i 0 = true from rfl)]
    refine Ev.step (fun k => ?_) hr
    have h4 : True → wrap64 (4 * (((ks.length + 3) / 4 : Nat) : Int)) = ((4 * ((ks.length + 3) / 4) : Nat) : Int) := fun _ => by rw [wrap64_id (by omega) (by omega)]; omega
    simp only [vellumref04_values.l0, h4 trivial]
    rw [if_neg (by omega)]
  | m + 1, i, hm => by
    have h0 : True → wrap64 (4 * (((ks.length + 3) / 4 : Nat) : Int)) = ((4 * ((ks.length + 3) / 4) : Nat) : Int) := fun _ => by rw [wrap64_id (by omega) (by omega)]; omega
    have h1 : True → wrap64 ((i : Int) + 1) = ((i + 1 : Nat) : Int) := fun _ => wrap_one i (by omega)
    have h4 : True → wrap64 (Int.tdiv (i : Int) 4) = ((i / 4 : Nat) : Int) := fun _ => by rw [tdiv4]; exact wrap64_id (by omega) (by omega)
    have h2 : True → IntKind.u64.wrap (wrap64 ((Int.tmod (i : Int) 4) * 2)) = ((2 * (i % 4) : Nat) : Int) := fun _ => by rw [tmod4, wrap64_id (by omega) (by omega), u64_wrap_id (by omega) (by omega)]; omega
    have hmr := mark_read' (L := L) (i := i) (n := (ks.length + 3) / 4) hL (by omega) hn
    refine Ev.step (g := fun k => if mk (L.take ((ks.length + 3) / 4)) i = 0 then vellumref04_values.l0 k ks (strOfNums L) (((ks.length + 3) / 4 : Nat) : Int) ((i + 1 : Nat) : Int) else some (([] : List (S50)), -1)) (fun k => ?_) ?_
    · simp only [vellumref04_values.l0, h0 trivial, h1 trivial, h4 trivial, h2 trivial, str_size]
      rw [if_pos (by omega), if_pos (by omega), if_pos (by omega), if_pos (by omega), hmr]
    · have ih := vals_l0 ks hks L hL hlen hn r hr m (i + 1) (by omega)
      by_cases hz : mk (L.take ((ks.length + 3) / 4)) i = 0
      · refine Ev.pos hz ?_
        have e : padOk (L.take ((ks.length + 3) / 4)) i (m + 1) = padOk (L.take ((ks.length + 3) / 4)) (i + 1) m := by
          show (mk (L.take ((ks.length + 3) / 4)) i == 0 && padOk (L.take ((ks.length + 3) / 4)) (i + 1) m) = _
          rw [hz]; rfl
        rw [e]; exact ih
      · refine Ev.neg hz ?_
        have hz2 : (mk (L.take ((ks.length + 3) / 4)) i == 0) = false := by simpa using hz
        have e : padOk (L.take ((ks.length + 3) / 4)) i (m + 1) = false := by
          show (mk (L.take ((ks.length + 3) / 4)) i == 0 && padOk (L.take ((ks.length + 3) / 4)) (i + 1) m) = _
          rw [hz2]; rfl
        rw [if_neg (by rw [e]; decide)]; exact Ev.pure
theorem values_ev (ks : List Int) (hks : ks.length ≤ 64) (hk : ∀ k ∈ ks, 1 ≤ k ∧ k ≤ 5) (L : List Int) (hL : Bytes L) (hlen : L.length ≤ 65536) :
    ∃ r, Ev (fun k => vellumref04_values.f k ks (strOfNums L)) r ∧ valsSpec L.length [] (rowR ks L) r := by
  have e1 : wrap64 (Int.tdiv (wrap64 ((ks.length : Int) + 3)) 4) = (((ks.length + 3) / 4 : Nat) : Int) := by
    rw [wrap64_id (n := (ks.length : Int) + 3) (by omega) (by omega)]
    have e : Int.tdiv ((ks.length : Int) + 3) 4 = (((ks.length + 3) / 4 : Nat) : Int) := rfl
    rw [e, wrap64_id (by omega) (by omega)]
  simp only [vellumref04_values.f, e1, str_size, rowR]
  by_cases hn : L.length < (ks.length + 3) / 4
  · rw [if_pos hn]
    exact ⟨_, Ev.pos (by omega) Ev.pure, rfl⟩
  · rw [if_neg hn]
    obtain ⟨r, r1, r2⟩ := vals_l1 ks hks hk L hL hlen (by omega) ks.length 0 [] ((ks.length + 3) / 4) (by omega) (by simp) (by omega)
    have h0 := vals_l0 ks hks L hL hlen (by omega) r r1 (4 * ((ks.length + 3) / 4) - ks.length) ks.length (by omega)
    refine ⟨_, Ev.neg (by omega) h0, ?_⟩
    by_cases hp : padOk (L.take ((ks.length + 3) / 4)) ks.length (4 * ((ks.length + 3) / 4) - ks.length) = true
    · rw [if_pos hp, if_pos hp]
      simpa using r2
    · rw [if_neg hp, if_neg hp]; rfl
/-- What both sides tell of some bytes. -/
def decR (a : ByteArray) (c : List S105) (d : List Int) (e : List S115) (f : List S139) (L : List Int) : List S50 × Int :=
  if checkT a c d e f = 0 then
    (if 65536 < L.length then ([], 3) else match rowR (kindsOf c) L with
      | none => ([], 41)
      | some (vs, R) => if R = [] ∧ admRow c vs = 0 then (vs, 0) else ([], 41))
  else ([], checkT a c d e f)
theorem str_empty {R : List Int} : (strOfNums R).toList = ([] : List UInt8) ↔ R = [] := by
  rw [Lib.toList_data, strOfNums_data]
  simp [toB]
theorem decR_code {a : ByteArray} {c : List S105} {d : List Int} {e : List S115} {f : List S139} (h : WfT a c d e f) {L : List Int} (hL : Bytes L) : Ev (fun k => row_Decode.f k a c d e f (strOfNums L)) (decR a c d e f L) := by
  have hch : schema_Check.f a c d e f = some (checkT a c d e f) := by
    unfold schema_Check.f; rw [if_pos (wfT_wfTB h)]
  simp only [row_Decode.f, hch, Option.bind_some, str_size]
  unfold decR
  by_cases h0 : checkT a c d e f = 0
  · rw [if_pos h0]
    refine Ev.pos h0 ?_
    by_cases hl : 65536 < L.length
    · rw [if_pos hl]; exact Ev.pos (by omega) Ev.pure
    · rw [if_neg hl]
      refine Ev.neg (by omega) ?_
      obtain ⟨r, r1, r2⟩ := decode_ev4 c (checkT_len h0) (fun x hx => checkT_kind h0 _ (List.mem_map.2 ⟨x, hx, rfl⟩)) L hL (by omega)
      refine Ev.bind r1 ?_
      cases hr : rowR (kindsOf c) L with
      | none =>
        rw [hr] at r2
        exact Ev.neg (by rw [show r.2.2 = false from r2]; decide) Ev.pure
      | some p =>
        obtain ⟨vs, R⟩ := p
        rw [hr] at r2
        simp only [decSpec] at r2
        by_cases ha : admRow c vs = 0
        · rw [if_pos ha] at r2
          subst r2
          refine Ev.pos rfl ?_
          by_cases hR : R = []
          · have e : (if R = [] ∧ admRow c vs = 0 then ((vs, 0) : List S50 × Int) else ([], 41)) = (vs, 0) := if_pos ⟨hR, ha⟩
            show Ev _ (if R = [] ∧ admRow c vs = 0 then ((vs, 0) : List S50 × Int) else ([], 41))
            rw [e]
            exact Ev.pos (str_empty.2 hR) (by simpa using Ev.pure)
          · have e : (if R = [] ∧ admRow c vs = 0 then ((vs, 0) : List S50 × Int) else ([], 41)) = ([], 41) := if_neg (fun g => hR g.1)
            show Ev _ (if R = [] ∧ admRow c vs = 0 then ((vs, 0) : List S50 × Int) else ([], 41))
            rw [e]
            exact Ev.neg (fun g => hR (str_empty.1 g)) Ev.pure
        · rw [if_neg ha] at r2
          have e : (if R = [] ∧ admRow c vs = 0 then ((vs, 0) : List S50 × Int) else ([], 41)) = ([], 41) := if_neg (fun g => ha g.2)
          show Ev _ (if R = [] ∧ admRow c vs = 0 then ((vs, 0) : List S50 × Int) else ([], 41))
          rw [e]
          exact Ev.neg (by rw [r2]; decide) Ev.pure
  · rw [if_neg h0]; exact Ev.neg h0 Ev.pure
theorem rowR_vals {cs : List S105} {L : List Int} {vs : List S50} {R : List Int} (hk : ∀ c ∈ cs, 1 ≤ c.f1 ∧ c.f1 ≤ 5) (hL : Bytes L) (hlen : L.length ≤ 65536) (h : rowR (kindsOf cs) L = some (vs, R)) : L = rowB vs ++ R ∧ vs.length = cs.length ∧ ∀ v ∈ vs, wf50 v ∧ v.f3.size ≤ 65536 := by
  obtain ⟨h1, h2, h3⟩ := rowR_sound (fun k hk' => by
    obtain ⟨x, hx, rfl⟩ := List.mem_map.1 hk'
    exact hk x hx) hL hlen h
  exact ⟨h1, by rw [h2]; simp [kindsOf], h3⟩
theorem decR_ref {a : ByteArray} {c : List S105} {d : List Int} {e : List S115} {f : List S139} (h : WfT a c d e f) (hc : c.length < 9223372036854775807) (he : e.length < 9223372036854775807) (hf : f.length < 9223372036854775807) {L : List Int} (hL : Bytes L) : Ev (fun k => vellumref04_Decode.f k a c d e f (strOfNums L)) (decR a c d e f L) := by
  simp only [vellumref04_Decode.f, str_size]
  refine Ev.bind (tcheck_ev a c d e f h hc he hf) ?_
  unfold decR
  by_cases h0 : checkT a c d e f = 0
  · rw [if_pos h0]
    refine Ev.pos h0 ?_
    by_cases hl : 65536 < L.length
    · rw [if_pos hl]; exact Ev.pos (by omega) Ev.pure
    · rw [if_neg hl]
      refine Ev.neg (by omega) ?_
      have hc64 := checkT_len h0
      have hk : ∀ x ∈ c, 1 ≤ x.f1 ∧ x.f1 ≤ 5 := fun x hx => checkT_kind h0 _ (List.mem_map.2 ⟨x, hx, rfl⟩)
      obtain ⟨r, r1, r2⟩ := values_ev (kindsOf c) (by simp [kindsOf]; exact hc64) (checkT_kind h0) L hL (by omega)
      have last : Ev (fun k => vellumref04_Decode.l0 k (strOfNums L) (kindsOf c) (c.length : Int) a c d e f) (match rowR (kindsOf c) L with
          | none => ([], 41)
          | some (vs, R) => if R = [] ∧ admRow c vs = 0 then (vs, 0) else ([], 41)) := by
        refine Ev.step (g := fun k => ((vellumref04_values.f k (kindsOf c) (strOfNums L)).bind fun bt849 => (if bt849.2 = ((strOfNums L).size : Int) then ((vellumref03_Admits.f k a c d e f bt849.1).bind fun t853 => (if t853 = 0 then (some (bt849.1, 0)) else (some (([] : List (S50)), 41)))) else (some (([] : List (S50)), 41))))) (fun k => ?_) (Ev.bind r1 ?_)
        · simp only [vellumref04_Decode.l0]
          rw [if_neg (by omega)]
        cases hr : rowR (kindsOf c) L with
        | none =>
          rw [hr] at r2
          have r2 : r = _ := r2
          subst r2
          exact Ev.neg (by rw [str_size]; show ¬ (-1 : Int) = _; omega) Ev.pure
        | some p =>
          obtain ⟨vs, R⟩ := p
          rw [hr] at r2
          obtain ⟨r2, r3⟩ := r2
          subst r2
          obtain ⟨g1, g2, g3⟩ := rowR_vals hk hL (by omega) hr
          show Ev _ (if R = [] ∧ admRow c vs = 0 then ((vs, 0) : List S50 × Int) else ([], 41))
          by_cases hR : R = []
          · subst hR
            refine Ev.pos (by rw [str_size]; show ((L.length - 0 : Nat) : Int) = _; omega) ?_
            show Ev (fun k => ((vellumref03_Admits.f k a c d e f vs).bind fun t853 => (if t853 = 0 then (some (vs, (0 : Int))) else (some (([] : List (S50)), (41 : Int)))))) _
            refine Ev.bind (admits_ev a c d e f vs h hc he hf (by omega) (fun v hv => (g3 v hv).1.2.2.2)) ?_
            by_cases ha : admRow c vs = 0
            · have e1 : (if ([] : List Int) = [] ∧ admRow c vs = 0 then ((vs, 0) : List S50 × Int) else ([], 41)) = (vs, 0) := if_pos ⟨rfl, ha⟩
              rw [e1]
              exact Ev.pos ((admT_iff h0).2 ⟨g2, ha⟩) Ev.pure
            · have e1 : (if ([] : List Int) = [] ∧ admRow c vs = 0 then ((vs, 0) : List S50 × Int) else ([], 41)) = ([], 41) := if_neg (fun g => ha g.2)
              rw [e1]
              exact Ev.neg (fun g => ha ((admT_iff h0).1 g).2) Ev.pure
          · have hp : 0 < R.length := List.length_pos_iff.2 hR
            have e1 : (if R = [] ∧ admRow c vs = 0 then ((vs, 0) : List S50 × Int) else ([], 41)) = ([], 41) := if_neg (fun g => hR g.1)
            rw [e1]
            exact Ev.neg (by rw [str_size]; show ¬ ((L.length - R.length : Nat) : Int) = _; omega) Ev.pure
      have go : ∀ (m i : Nat), i + m = c.length → Ev (fun k => vellumref04_Decode.l0 k (strOfNums L) (kindsOf (c.take i)) (i : Int) a c d e f) (match rowR (kindsOf c) L with
          | none => ([], 41)
          | some (vs, R) => if R = [] ∧ admRow c vs = 0 then (vs, 0) else ([], 41)) := by
        intro m
        induction m with
        | zero =>
          intro i hi
          obtain rfl : i = c.length := by omega
          rw [List.take_of_length_le (Nat.le_refl _)]
          exact last
        | succ m ih =>
          intro i hi
          have hlt : i < c.length := by omega
          refine Ev.step (fun k => ?_) (ih (i + 1) (by omega))
          simp only [vellumref04_Decode.l0]
          have hkl : (kindsOf (c.take i)).length = i := by simp [kindsOf]; omega
          have h1 : True → wrap64 ((i : Int) + 1) = ((i + 1 : Nat) : Int) := fun _ => wrap_one i (by omega)
          rw [if_pos (by omega), if_pos (by omega), if_pos (by omega), rd105_get c i hlt, h1 trivial]
          have e2 : kindsOf (c.take i) ++ [c[i].f1] = kindsOf (c.take (i + 1)) := by
            unfold kindsOf
            rw [List.take_succ_eq_append_getElem hlt, List.map_append]; rfl
          rw [e2]
      have := go c.length 0 (by omega)
      simpa [kindsOf] using this
  · rw [if_neg h0]; exact Ev.neg h0 Ev.pure
theorem decR_len {a : ByteArray} {c : List S105} {d : List Int} {e : List S115} {f : List S139} {L : List Int} (hL : Bytes L) : (decR a c d e f L).1.length ≤ 64 := by
  unfold decR
  by_cases h0 : checkT a c d e f = 0
  · rw [if_pos h0]
    by_cases hl : 65536 < L.length
    · rw [if_pos hl]; simp
    · rw [if_neg hl]
      cases hr : rowR (kindsOf c) L with
      | none => simp
      | some p =>
        obtain ⟨vs, R⟩ := p
        obtain ⟨_, g2, _⟩ := rowR_vals (fun x hx => checkT_kind h0 _ (List.mem_map.2 ⟨x, hx, rfl⟩)) hL (by omega) hr
        simp only
        split
        · have := checkT_len h0; simp only; omega
        · simp
  · rw [if_neg h0]; simp
theorem sameL_self : ∀ xs : List S50, sameL xs xs = true
  | [] => rfl
  | x :: xs => by simp [sameL, sameL_self xs, smB_iff.2 rfl]
theorem RowDecodes (x0 : S65) (a1 : ByteArray) (h0 : wf65 x0) (h1 : a1.size ≤ 140737488351232) : ∃ k, vellumlaw04_RowDecodes.f k x0.f0 x0.f1 x0.f2 x0.f3 x0.f4 a1 = some true := by
  refine Ev.ex ?_
  simp only [vellumlaw04_RowDecodes.f]
  have hT := wf65_T h0
  obtain ⟨_, g1, _, g3, g4⟩ := h0
  have hL := bytesOf_bytes a1
  have c1 := decR_code hT hL
  have c2 := decR_ref hT (by omega) (by omega) (by omega) hL
  rw [str_bytes] at c1 c2
  have hlen := decR_len (a := x0.f0) (c := x0.f1) (d := x0.f2) (e := x0.f3) (f := x0.f4) hL
  refine Ev.bind c1 (Ev.bind c2 (Ev.pos rfl (Ev.bind (same_ref _ _ (by omega)) (Ev.pos ?_ (Ev.bind awake4_ev Ev.pure)))))
  rw [decide_eq_true rfl, sameL_self]; rfl
end Go.Proofs.YtpiifdbicibelaaDoor.Pure
end
section
namespace Go.Proofs.YtpiifdbicibelaaDoor
open Go.RowKit
theorem main_ : Tryd.pinned.checked.prog.mainIs = some (true, "409e20a6319c123f59629b35fea50f486835097bfbed967dc062cdc0fc9eff79".toList) := by kernel_rfl
theorem looks_ : false = Tryd.prog.looks [] := by kernel_rfl
end Go.Proofs.YtpiifdbicibelaaDoor
end
section
namespace Go.Proofs.YtpiifdbicibelaaDoor.rowDecodes
open Go.ChangeShapes Go.WideShapes Go.ChangeAt Go.RowKit Go.Proofs.YtpiifdbicibelaaDoorW.PrintWords Go.Proofs.YtpiifdbicibelaaDoor.PA Go.Proofs.YtpiifdbicibelaaDoor.OpenK Go.Proofs.YtpiifdbicibelaaDoor.Pure
open Go.ChangeMaps (open_string shut_string)
set_option linter.unusedVariables false
theorem walk {H : Type} {enc : TypeId × Value → H} (W : World) (base : Nat) (args : Array Value) (ds : List (DataW H)) (ps : List MemPlace) (hA0 : DataW.TrodAll enc Tryd.prog W 0 (fun _ => true) true Tryd.f15.params.toList args.toList ds ps)
    (hw0 : (DataW.weightsEach Tryd.prog Tryd.f15.params.toList ds).all (· ≤ reachBytes) = true) (hval0 : ∀ (j : Nat) t v, Tryd.f15.params[j]? = some t → args[j]? = some v → Value.okWide Tryd.prog W .any base t v) (hG : Glob W) :
    Calls Tryd.prog 15 args W fun e W' => e = .returned (.bool true) ∧ Below W.heap.size W W' := by
  have hval : ∀ (j : Nat) t v, Tryd.f15.params[j]? = some t → args[j]? = some v → Value.okWide Tryd.prog W .any base t v := @hval0
  have hA : DataW.TrodAll enc Tryd.prog W 0 (fun _ => true) true Tryd.f15.params.toList args.toList ds ps := hA0
  have hw : (DataW.weightsEach Tryd.prog Tryd.f15.params.toList ds).all (· ≤ reachBytes) = true := hw0
  rw [Tryd.params15] at hA hval hw
  clear hA0 hw0 hval0
  obtain ⟨v0, vs0, d0, ds0, p0, q0, hargs, rfl, rfl, h0, r0⟩ := trodAll_cons hA
  obtain ⟨v1, vs1, d1, ds1, p1, q1, rfl, rfl, rfl, h1, r1⟩ := trodAll_cons r0
  obtain ⟨rfl, rfl, rfl⟩ := trodAll_nil r1
  obtain rfl : args = #[v0, v1] := by cases args; simp_all
  simp only [DataW.weightsEach, all_append_iff] at hw
  obtain ⟨hw0, hw1, _⟩ := hw
  obtain ⟨fuel0, hf0⟩ := h0
  obtain ⟨x0, hK0, wf0_⟩ := opn65 hf0 hw0
  -- STRUCT 0
  obtain ⟨A0_1, c0_1, A0_2, c0_2, A0_3, c0_3, A0_4, c0_4, he0, hl0_1, hC0_1, hl0_2, hC0_2, hl0_3, hC0_3, hl0_4, hC0_4⟩ := k65_open hK0
  obtain rfl : v0 = .agg #[.string x0.f0, .slice A0_1 x0.f1.length c0_1, .slice A0_2 x0.f2.length c0_2, .slice A0_3 x0.f3.length c0_3, .slice A0_4 x0.f4.length c0_4] := agg_of_cells he0 (by simp)
  obtain ⟨a1, rfl, rfl, rfl, y1⟩ := arg_string (j := 1) @hval rfl rfl Tryd.underlying9 h1
  have wf1_ : a1.size ≤ 140737488351232 := by
    simp only [DataW.weights, List.all_cons, List.all_nil, Bool.and_true, decide_eq_true_eq, Array.length_toList] at hw1
    unfold reachBytes at hw1
    exact hw1
  obtain ⟨k, h⟩ := RowDecodes x0 a1 wf0_ wf1_
  refine (vellumlaw04_RowDecodes.calls k x0.f0 _ _ x0.f1 _ _ x0.f2 _ _ x0.f3 _ _ x0.f4 a1 true W hC0_1 hl0_1 hC0_2 hl0_2 hC0_3 hl0_3 hC0_4 hl0_4 hG h).mono ?_
  rintro e W' ⟨rfl, hd⟩
  exact ⟨rfl, hd⟩
theorem witness_row (os : Os) {H : Type} (enc : TypeId × Value → H) :
    (OpenSpec.ofChange Rows.rowDecodesSpec).preRow enc Tryd.prog Tryd.f15 [] false laidList ((laidWorld os).forCall (fun _ _ => 0) ⟨#[], #[.agg #[.string ByteArray.empty, .slice none 0 0, .slice none 0 0, .slice none 0 0, .slice none 0 0], .string ByteArray.empty], []⟩).memory #[.agg #[.string ByteArray.empty, .slice none 0 0, .slice none 0 0, .slice none 0 0, .slice none 0 0], .string ByteArray.empty] := by
  have hw : (DataW.whole enc Tryd.prog ((laidWorld os).forCall (fun _ _ => 0) ⟨#[], #[.agg #[.string ByteArray.empty, .slice none 0 0, .slice none 0 0, .slice none 0 0, .slice none 0 0], .string ByteArray.empty], []⟩).memory Tryd.f15.params.toList (OpenSpec.ofChange Rows.rowDecodesSpec).vars false (#[.agg #[.string ByteArray.empty, .slice none 0 0, .slice none 0 0, .slice none 0 0, .slice none 0 0], .string ByteArray.empty] : Array Value).toList 8).map (fun x => (x.1, x.2.1)) = some ([.agg [.lit (.string []), .nil, .nil, .nil, .nil], .lit (.string [])], []) := by kernel_rfl
  obtain ⟨⟨x1, x2, x3⟩, hx, hx1⟩ := Option.map_eq_some_iff.1 hw
  simp only [Prod.mk.injEq] at hx1
  obtain ⟨rfl, rfl⟩ := hx1
  exact OpenSpec.preRow_of_cond 8 hx (by kernel_rfl) (fun k hk => by cases hk) (by kernel_rfl) (laid_met os _)
theorem ends {os : Os} (started : os.Started) {H : Type} {enc : TypeId × Value → H} {F : Stop.Interp} : ReturnsInHanded { modest := false } Tryd.checked os 15 .any ((OpenSpec.ofChange Rows.rowDecodesSpec).preRow enc Tryd.prog Tryd.f15 [] false laidList) (((OpenSpec.ofChange Rows.rowDecodesSpec).at F).post enc Tryd.prog Tryd.f15 false true false false) :=
  law_lifted (spec := Rows.rowDecodesSpec) Tryd.func15 (by kernel_rfl) (tb := 4) rfl Tryd.underlying4 (by kernel_rfl) rfl
    (fun H ds hl => by
      match ds, hl with
      | [_, _], _ => rfl) started
    (witness_row_atRef (enc := enc) (C := Tryd.checked) false (laidWorld os) #[.agg #[.string ByteArray.empty, .slice none 0 0, .slice none 0 0, .slice none 0 0, .slice none 0 0], .string ByteArray.empty] rfl (by kernel_rfl) (by kernel_rfl) (by kernel_rfl) (witness_row os enc))
    (fun W base args ds ps hA hw hval hG => walk W base args ds ps hA hw @hval hG)
theorem inPlace_ : Tryd.prog.inPlace 15 = Rows.rowDecodesRow.inPlace := by kernel_rfl
theorem unfollowed_ : Tryd.prog.unfollowed 15 = Rows.rowDecodesRow.unfollowed := by kernel_rfl
theorem recurses_ : Tryd.prog.recurses 15 = Rows.rowDecodesRow.recurses := by kernel_rfl
theorem named_ : Tryd.prog.varsNamed 15 = Rows.rowDecodesRow.named := by kernel_rfl
theorem closed : joinedFacts Tryd.prog 15 Tryd.f15 (OpenSpec.ofChange Rows.rowDecodesSpec).bare Rows.rowDecodesRow = true := by
  unfold joinedFacts
  rw [laidOut, mapsRowed_, stops_, stopKnobs_, plainKeys_, stopsHeard_, mayEnter_, lifts_, make_, inPlace_, unfollowed_, recurses_, named_]
  kernel_rfl
set_option maxRecDepth 100000 in
theorem over : Rows.rowDecodesRow.holds Tryd.pinned (OpenSpec.ofChange Rows.rowDecodesSpec) :=
  OpenClaim.holds_of_cond 15 Tryd.f15 rfl rfl rfl rfl rfl rfl rfl ⟨rfl, rfl, rfl, rfl, rfl⟩ rfl rfl rfl rfl rfl (by kernel_rfl) Tryd.func15 closed
    (of_decide_eq_true (by kernel_rfl)) (by unfold Func.isWrapper; rw [if_neg (of_decide_eq_false (by kernel_rfl))]; exact ⟨rfl, rfl⟩)
    (fun os started H enc _ F => by
      rw [OpenClaim.pre_eq_preRow]
      exact ends started)
theorem goes_ : false = Rows.rowDecodesRow.goesBy Tryd.prog := by kernel_rfl
theorem fnamed_ : Tryd.prog.funcNamed "vellum/vellumlaw04.RowDecodes" = some 15 := by kernel_rfl
theorem card : Rows.RowDecodesCardSaid :=
  Claim7.holds_tied_plain_at .later [] [.data, .pinned] true (true, "409e20a6319c123f59629b35fea50f486835097bfbed967dc062cdc0fc9eff79") false
    over (fun _ h => by cases h) (by kernel_rfl) (fun _ h => by cases h) rowDecodes_row_tie rfl ⟨rfl, rfl⟩ main_ rfl
    (fun f fn hf hfn => by
      obtain rfl : f = 15 := Option.some.inj (fnamed_.symm.trans hf) |>.symm
      obtain rfl : fn = Tryd.f15 := (Option.some.inj (Tryd.func15.symm.trans hfn)).symm
      exact ⟨looks_, fun j t ht => by
        rw [Tryd.params15] at ht
        have h3 : t ∈ [65, 9] := by
          have := List.mem_of_getElem? (l := [65, 9]) (i := j) (by simpa using ht)
          exact this
        have h4 : ∀ t ∈ [65, 9], Tryd.prog.wantsStandIn t = false := by
          intro t ht
          simp only [List.mem_cons, List.mem_nil_iff, or_false] at ht
          rcases ht with rfl | rfl
          all_goals kernel_rfl
        exact h4 t h3⟩)
    goes_
end Go.Proofs.YtpiifdbicibelaaDoor.rowDecodes
namespace Go.Proofs.YtpiifdbicibelaaDoor
theorem rowDecodes_holds : Rows.RowDecodesCardSaid := rowDecodes.card
end Go.Proofs.YtpiifdbicibelaaDoor
end
