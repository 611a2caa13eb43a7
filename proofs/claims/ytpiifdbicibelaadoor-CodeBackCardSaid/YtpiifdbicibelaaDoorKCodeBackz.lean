/- CodeBack: the law returns true at every input, and its arguments read as before. Conditions: as the row has them (the listed tables as the program's text lays them). -/
import Derived.Test.YtpiifdbicibelaaDoorKCodeBack3
section
namespace Go.Proofs.YtpiifdbicibelaaDoor.Pure
open Go.RowKit Go.Proofs Go.Proofs.YtpiifdbicibelaaDoorW.PrintWords Go.Proofs.YtpiifdbicibelaaDoorW.PrintLast Go.Proofs.YtpiifdbicibelaaDoorW.PrintMore Go.Proofs.YtpiifdbicibelaaDoor.PA Go.Proofs.YtpiifdbicibelaaDoor.OpenK
set_option linter.unusedVariables false
set_option linter.unusedSimpArgs false
abbrev G6 := Int × Int × Nat × ByteArray × ByteArray × Bool
def valOf (r : G6) : S50 := ⟨r.1, r.2.1, r.2.2.1, r.2.2.2.1⟩
theorem noText : (⟨#[]⟩ : ByteArray).toList = [] := by decide +kernel
theorem noText_of {d : ByteArray} (h : d.toList = []) : d = (⟨#[]⟩ : ByteArray) := by
  rw [Lib.toList_data] at h
  apply Go.WideShapes.bytes_inj
  rw [h]
theorem chk_fields {a b : Int} {c : Nat} {d : ByteArray} (h : chk a b c d = 0) :
    (0 ≤ a ∧ a ≤ 5) ∧ (a = 1 → b = 0 ∨ b = 1) ∧ (a ≠ 1 → a ≠ 2 → b = 0) ∧ (a ≠ 3 → c = 0) ∧ (a ≠ 4 → a ≠ 5 → d = (⟨#[]⟩ : ByteArray)) ∧ (a = 4 → Lib.validD d.data.toList = true) ∧ d.size ≤ 65536 := by
  have h0 := chk_ok h
  unfold chk at h
  split at h
  · cases h
  · rename_i hn
    refine ⟨h0.1, fun e => ?_, fun e1 e2 => ?_, fun e => ?_, fun e1 e2 => ?_, fun e => ?_, h0.2⟩
    · by_cases b0 : b = 0
      · exact .inl b0
      · by_cases b1 : b = 1
        · exact .inr b1
        · exact absurd (.inr (.inr (.inl ⟨e, b0, b1⟩))) hn
    · by_cases b0 : b = 0
      · exact b0
      · exact absurd (.inr (.inr (.inr (.inl ⟨e1, e2, b0⟩)))) hn
    · by_cases c0 : c = 0
      · exact c0
      · exact absurd (.inr (.inr (.inr (.inr (.inl ⟨e, c0⟩))))) hn
    · by_cases d0 : d.toList = []
      · exact noText_of d0
      · exact absurd (.inr (.inr (.inr (.inr (.inr (.inl ⟨e1, e2, d0⟩)))))) hn
    · cases hv : Lib.validD d.data.toList
      · exact absurd (.inr (.inr (.inr (.inr (.inr (.inr ⟨e, hv⟩)))))) hn
      · rfl
theorem chk_plain {a b : Int} (ha : a = 0 ∨ a = 1 ∨ a = 2 ∨ a = 3) (c : Nat) (h1 : a = 1 → b = 0 ∨ b = 1) (h2 : a ≠ 1 → a ≠ 2 → b = 0) (h3 : a ≠ 3 → c = 0) : chk a b c (⟨#[]⟩ : ByteArray) = 0 := by
  unfold chk
  rw [if_neg]
  · rw [if_neg]; show ¬ ((0 : Nat) : Int) > 65536; omega
  · rw [noText]
    rintro (h | h | ⟨h, g1, g2⟩ | ⟨g1, g2, h⟩ | ⟨g, h⟩ | ⟨_, _, h⟩ | ⟨h, _⟩)
    · omega
    · omega
    · rcases h1 h with h | h <;> omega
    · exact h (h2 g1 g2)
    · exact h (h3 g)
    · exact h rfl
    · omega
theorem wf_of {a b : Int} {c : Nat} {d : ByteArray} (ha : 0 ≤ a ∧ a ≤ 5) (hb : (Lit.int .i64 b).wf = true) (hc : c < 18446744073709551616) (hd : d.size ≤ 140737488351232) : wf50 ⟨a, b, c, d⟩ := by
  refine ⟨?_, hb, hc, hd⟩
  simpa [Lit.wf, IntKind.min, IntKind.max, IntKind.signed, IntKind.bits] using (show -9223372036854775808 ≤ a ∧ a ≤ 9223372036854775807 by omega)
theorem lit_small {b : Int} (h : 0 ≤ b ∧ b ≤ 1) : (Lit.int .i64 b).wf = true := by
  simpa [Lit.wf, IntKind.min, IntKind.max, IntKind.signed, IntKind.bits] using (show -9223372036854775808 ≤ b ∧ b ≤ 9223372036854775807 by omega)
theorem got_sound {L : List Int} (hL : Bytes L) (hlen : L.length ≤ 1000000) (hok : (got L).2.2.2.2.2 = true) :
    ∃ R, L = codeOf (valOf (got L)) ++ R ∧ (got L).2.2.2.2.1 = strOfNums R ∧ Told (valOf (got L)) := by
  cases L with
  | nil => simp [got, zeroG] at hok
  | cons t M =>
    have hM := hL.tail
    by_cases h1 : t = 1
    · subst h1
      have e : got (1 :: M) = (0, 0, 0, (⟨#[]⟩ : ByteArray), strOfNums M, true) := by simp [got]
      rw [e]
      refine ⟨M, by simp [codeOf, codeV, valOf], rfl, ?_⟩
      show Told (⟨0, 0, 0, (⟨#[]⟩ : ByteArray)⟩ : S50)
      exact ⟨chk_plain (.inl rfl) 0 (by decide) (fun _ _ => rfl) (fun _ => rfl), wf_of (by decide) (by decide) (by decide) (by decide), by simp⟩
    by_cases h2 : t = 2
    · subst h2
      cases M with
      | nil => simp [got, zeroG] at hok
      | cons b M' =>
        have hb := hM b (by simp)
        by_cases h3 : b > 1
        · simp [got, zeroG, h3] at hok
        · have e : got (2 :: b :: M') = (1, b, 0, (⟨#[]⟩ : ByteArray), strOfNums M', true) := by simp [got, h3]
          rw [e]
          refine ⟨M', ?_, rfl, ?_⟩
          rotate_left
          · show Told (⟨1, b, 0, (⟨#[]⟩ : ByteArray)⟩ : S50)
            exact ⟨chk_plain (.inr (.inl rfl)) 0 (fun _ => by show b = 0 ∨ b = 1; omega) (fun h => absurd rfl h) (fun _ => rfl), wf_of (by decide) (lit_small (by omega)) (by decide) (by decide), by simp⟩
          have : b % 256 = b := by omega
          simp [codeOf, codeV, valOf, this]
    by_cases h3 : t = 3
    · subst h3
      have e : got (3 :: M) = gotInt M := by simp [got]
      rw [e] at hok ⊢
      unfold gotInt at hok ⊢
      cases hr : rawInt M with
      | none => rw [hr] at hok; simp [zeroG] at hok
      | some p =>
        obtain ⟨m, b, k⟩ := p
        rw [hr] at hok
        simp only at hok ⊢
        by_cases hf : fitsRaw m b k = true ∧ m ≤ 9223372036854775807
        · rw [if_pos hf]
          obtain ⟨hw, hs⟩ := raw_sound hM hr hf.1 hf.2
          refine ⟨M.drop (k + 1), ?_, rfl, ?_⟩
          rotate_left
          · show Told (⟨2, intOfRaw m b, 0, (⟨#[]⟩ : ByteArray)⟩ : S50)
            exact ⟨chk_plain (.inr (.inr (.inl rfl))) 0 (fun h => absurd (show (2 : Int) = 1 from h) (by decide)) (fun _ h => absurd rfl h) (fun _ => rfl), wf_of (by decide) hw (by decide) (by decide), by simp⟩
          show (3 : Int) :: M = codeV 2 (intOfRaw m b) 0 (⟨#[]⟩ : ByteArray) ++ M.drop (k + 1)
          have ec : codeV 2 (intOfRaw m b) 0 (⟨#[]⟩ : ByteArray) = 3 :: codeInt (intOfRaw m b) := by simp [codeV]
          rw [ec, List.cons_append, ← hs]
        · rw [if_neg hf] at hok; simp [zeroG] at hok
    by_cases h4 : t = 4
    · subst h4
      have e : got (4 :: M) = gotFloat M := by simp [got]
      rw [e] at hok ⊢
      unfold gotFloat at hok ⊢
      by_cases h : M.length < 8
      · rw [if_pos h] at hok; simp [zeroG] at hok
      · rw [if_neg h] at hok ⊢
        have hp : plainF (floatOf (M.take 8)) = floatOf (M.take 8) := by simpa using hok
        have hl : (M.take 8).length = 8 := by rw [List.length_take]; omega
        refine ⟨M.drop 8, ?_, rfl, ?_⟩
        rotate_left
        · show Told (⟨3, 0, floatOf (M.take 8), (⟨#[]⟩ : ByteArray)⟩ : S50)
          exact ⟨chk_plain (.inr (.inr (.inr rfl))) _ (fun h => absurd (show (3 : Int) = 1 from h) (by decide)) (fun _ _ => rfl) (fun h => absurd rfl h), wf_of (by decide) (by decide) (floatOf_lt (hM.take 8) hl) (by decide), fun _ => hp⟩
        show (4 : Int) :: M = codeV 3 0 (floatOf (M.take 8)) (⟨#[]⟩ : ByteArray) ++ M.drop 8
        have ec : codeV 3 0 (floatOf (M.take 8)) (⟨#[]⟩ : ByteArray) = 4 :: codeBits (plainF (floatOf (M.take 8))) := by simp [codeV]
        rw [ec, hp, floatOf_code (hM.take 8) hl, List.cons_append, List.take_append_drop]
    by_cases h5 : t = 5 ∨ t = 6
    · have e : got (t :: M) = gotText t M := by simp only [got]; rw [if_neg h1, if_neg h2, if_neg h3, if_neg h4, if_pos h5]
      rw [e] at hok ⊢
      unfold gotText at hok ⊢
      cases hto : textOff [] (toB M) with
      | none => rw [hto] at hok; simp at hok
      | some p =>
        obtain ⟨u, r⟩ := p
        rw [hto] at hok
        simp only at hok ⊢
        have hc : chk (t - 1) 0 0 ⟨u.toArray⟩ = 0 := by simpa using hok
        obtain ⟨u', hu, hs⟩ := text_sound (toB M).length (toB M) [] u r (Nat.le_refl _) hto
        simp at hu
        subst hu
        rw [nat_toB hM] at hs
        have hf := chk_fields hc
        refine ⟨r.map fun b => (b.toNat : Int), ?_, ?_, ?_⟩
        rotate_left
        rotate_left
        · show Told (⟨t - 1, 0, 0, ⟨u.toArray⟩⟩ : S50)
          exact ⟨hc, wf_of hf.1 (by decide) (by decide) (Nat.le_trans hf.2.2.2.2.2.2 (by decide)), fun h => by have : t - 1 = 3 := h; omega⟩
        · show t :: M = codeV (t - 1) 0 0 ⟨u.toArray⟩ ++ _
          have ec : codeV (t - 1) 0 0 ⟨u.toArray⟩ = t :: codeText u := by
            rcases h5 with rfl | rfl
            · simp [codeV]
            · simp [codeV]
          rw [ec, List.cons_append, ← hs]
        · show (⟨r.toArray⟩ : ByteArray) = _
          rw [← str_toB, toB_nat]
    · have e : got (t :: M) = zeroG := by simp only [got]; rw [if_neg h1, if_neg h2, if_neg h3, if_neg h4, if_neg h5]
      rw [e] at hok
      simp [zeroG] at hok
theorem got_complete {v : S50} (hv : Told v) {R : List Int} (hT : Tail R) (hR : Bytes R) : got (codeOf v ++ R) = tup v R := by
  obtain ⟨a, b, c, d⟩ := v
  obtain ⟨hok, ⟨_, w1, w2, w3⟩, hp⟩ := hv
  have hf := chk_fields hok
  obtain ⟨ha, f1, f2, f3, f4, f5, f6⟩ := hf
  simp only at ha f1 f2 f3 f4 f5 f6 w1 w2 w3 hp
  by_cases h0 : a = 0
  · subst h0
    obtain rfl := f2 (by decide) (by decide)
    obtain rfl := f3 (by decide)
    obtain rfl := f4 (by decide) (by decide)
    simp [codeOf, codeV, got, tup]
  by_cases h1 : a = 1
  · subst h1
    obtain rfl := f3 (by decide)
    obtain rfl := f4 (by decide) (by decide)
    have hb : b % 256 = b := by rcases f1 rfl with h | h <;> omega
    have hb1 : ¬ b > 1 := by rcases f1 rfl with h | h <;> omega
    simp [codeOf, codeV, hb, got, hb1, tup]
  by_cases h2 : a = 2
  · subst h2
    obtain rfl := f3 (by decide)
    obtain rfl := f4 (by decide) (by decide)
    obtain ⟨m, k, e1, e2, e3, e4, e5⟩ := raw_complete w1 R
    have ec : codeOf ⟨2, b, 0, (⟨#[]⟩ : ByteArray)⟩ = 3 :: codeInt b := by simp [codeOf, codeV]
    rw [ec, List.cons_append]
    have eg : got (3 :: (codeInt b ++ R)) = gotInt (codeInt b ++ R) := by simp [got]
    rw [eg]
    unfold gotInt
    rw [e1]
    simp only
    rw [if_pos ⟨e3, e4⟩, e2]
    have ed : (codeInt b ++ R).drop (k + 1) = R := by rw [← e5]; simp
    rw [ed]
    rfl
  by_cases h3 : a = 3
  · subst h3
    obtain rfl := f2 (by decide) (by decide)
    obtain rfl := f4 (by decide) (by decide)
    have hpc := hp rfl
    have ec : codeOf ⟨3, 0, c, (⟨#[]⟩ : ByteArray)⟩ = 4 :: codeBits c := by simp [codeOf, codeV, hpc]
    rw [ec, List.cons_append]
    have eg : got (4 :: (codeBits c ++ R)) = gotFloat (codeBits c ++ R) := by simp [got]
    rw [eg]
    unfold gotFloat
    have h8 := codeBits_length c
    rw [if_neg (by simp [h8])]
    have e1 : (codeBits c ++ R).take 8 = codeBits c := by rw [List.take_append_of_le_length (by omega), List.take_of_length_le (by omega)]
    have e2 : (codeBits c ++ R).drop 8 = R := by rw [← h8]; simp
    rw [e1, e2, codeBits_float w2, hpc]
    simp [tup]
  have hbc : b = 0 := f2 h1 h2
  have hcc : c = 0 := f3 h3
  subst hbc hcc
  have h45 : a = 4 ∨ a = 5 := by omega
  have ec : codeOf ⟨a, 0, 0, d⟩ = (a + 1) :: codeText d.data.toList := by
    rcases h45 with rfl | rfl <;> simp [codeOf, codeV]
  rw [ec, List.cons_append]
  have eg : got ((a + 1) :: (codeText d.data.toList ++ R)) = gotText (a + 1) (codeText d.data.toList ++ R) := by
    simp only [got]
    rw [if_neg (by omega), if_neg (by omega), if_neg (by omega), if_neg (by omega), if_pos (by omega)]
  rw [eg]
  unfold gotText
  rw [text_complete _ _ _ hT hR]
  simp only [List.nil_append]
  have e1 : a + 1 - 1 = a := by omega
  have e2 : (⟨d.data.toList.toArray⟩ : ByteArray) = d := by cases d; simp
  have hok' : chk a 0 0 d = 0 := hok
  rw [e1, e2, str_toB, hok']
  simp [tup]
theorem codeOf_pos (v : S50) : 1 ≤ (codeOf v).length := by
  obtain ⟨a, l, e, _⟩ := codeOf_head v
  rw [e]; simp
/-- What Decode of the program tells: a refusal, or the values whose key this is. -/
theorem decode_total : ∀ (n : Nat) (L : List Int) (acc : List S50), L.length ≤ n → Bytes L → acc.length + L.length ≤ 2000 →
    ∃ r : List S50 × Int, Ev (fun k => code_Decode.l0 k (strOfNums L) acc) r ∧ (r = ([], 20) ∨ ∃ vs, (∀ v ∈ vs, Told v) ∧ L = flat vs ∧ r = (acc ++ vs, 0))
  | n, [], acc, _, _, _ => by
    refine ⟨(acc, 0), Ev.from_ 1 fun k => ?_, .inr ⟨[], by simp, rfl, by simp⟩⟩
    simp only [code_Decode.l0]
    rw [if_neg (by rw [str_size]; simp)]
  | 0, t :: M, acc, h, _, _ => by simp at h
  | n + 1, t :: M, acc, h, hL, hb => by
    have hg := get_ev (t :: M) hL (by simp) (by simp at hb ⊢; omega)
    have step : ∀ k, code_Decode.l0 (k + 1) (strOfNums (t :: M)) acc = (code_get.f k (strOfNums (t :: M))).bind fun bt499 => (if bt499.2.2.2.2.2 = true then (if acc.length < 3518437208883 then (code_Decode.l0 k bt499.2.2.2.2.1 (acc ++ [(⟨bt499.1, bt499.2.1, bt499.2.2.1, bt499.2.2.2.1⟩ : S50)])) else (none)) else (some (([] : List (S50)), 20))) := by
      intro k
      simp only [code_Decode.l0]
      rw [if_pos (by rw [str_size]; simp only [List.length_cons]; omega)]
    cases hok : (got (t :: M)).2.2.2.2.2 with
    | false => exact ⟨([], 20), Ev.step step (Ev.bind hg (Ev.neg (by rw [hok]; decide) Ev.pure)), .inl rfl⟩
    | true =>
      obtain ⟨R, e1, e2, e3⟩ := got_sound hL (by simp at hb ⊢; omega) hok
      have hpos := codeOf_pos (valOf (got (t :: M)))
      have hlen : (t :: M).length = (codeOf (valOf (got (t :: M)))).length + R.length := by rw [← List.length_append, ← e1]
      have hRb : Bytes R := (Bytes.app (by rw [← e1]; exact hL)).2
      obtain ⟨r, hr, hcase⟩ := decode_total n R (acc ++ [valOf (got (t :: M))]) (by simp at h hlen ⊢; omega) hRb (by simp at hb hlen ⊢; omega)
      refine ⟨r, Ev.step step (Ev.bind hg (Ev.pos hok (Ev.pos (by omega) ?_))), ?_⟩
      · rw [e2]; exact hr
      · rcases hcase with h1 | ⟨vs, h1, h2, h3⟩
        · exact .inl h1
        · refine .inr ⟨valOf (got (t :: M)) :: vs, ?_, ?_, ?_⟩
          · intro v hv
            rcases List.mem_cons.1 hv with rfl | hv
            · exact e3
            · exact h1 v hv
          · rw [flat_cons, ← h2]; exact e1
          · rw [h3]; simp
theorem decode_flat : ∀ (vs acc : List S50), (∀ v ∈ vs, Told v) → acc.length + (flat vs).length ≤ 2000 → Ev (fun k => code_Decode.l0 k (strOfNums (flat vs)) acc) (acc ++ vs, 0)
  | [], acc, _, _ => by
    refine Ev.from_ 1 fun k => ?_
    simp only [code_Decode.l0]
    rw [if_neg (by rw [str_size]; simp [flat])]
    simp
  | v :: vs, acc, hv, hb => by
    have hw : ∀ x ∈ vs, wf50 x := fun x hx => (hv x (by simp [hx])).wf
    have hpos := codeOf_pos v
    rw [flat_cons] at hb ⊢
    simp at hb
    have hbs : Bytes (codeOf v ++ flat vs) := by
      intro x hx
      rcases List.mem_append.1 hx with h | h
      · exact codeOf_bytes (hv v (by simp)).wf x h
      · exact flat_bytes hw x h
    have hg := get_ev (codeOf v ++ flat vs) hbs (by intro e; rw [List.append_eq_nil_iff] at e; rw [e.1] at hpos; simp at hpos) (by simp; omega)
    rw [got_complete (hv v (by simp)) (flat_tail vs) (flat_bytes hw)] at hg
    have ih := decode_flat vs (acc ++ [v]) (fun x hx => hv x (by simp [hx])) (by simp; omega)
    refine Ev.step (g := fun k => (code_get.f k (strOfNums (codeOf v ++ flat vs))).bind fun bt499 => (if bt499.2.2.2.2.2 = true then (if acc.length < 3518437208883 then (code_Decode.l0 k bt499.2.2.2.2.1 (acc ++ [(⟨bt499.1, bt499.2.1, bt499.2.2.1, bt499.2.2.2.1⟩ : S50)])) else (none)) else (some (([] : List (S50)), 20)))) (fun k => ?_) ?_
    · simp only [code_Decode.l0]
      rw [if_pos (by rw [str_size]; simp; omega)]
    · refine Ev.bind hg (Ev.pos rfl (Ev.pos (by omega) ?_))
      simpa [tup] using ih
end Go.Proofs.YtpiifdbicibelaaDoor.Pure
end
section
namespace Go.Proofs.YtpiifdbicibelaaDoor.Pure
open Go.RowKit Go.Proofs Go.Proofs.YtpiifdbicibelaaDoorW.PrintWords Go.Proofs.YtpiifdbicibelaaDoorW.PrintLast Go.Proofs.YtpiifdbicibelaaDoorW.PrintMore Go.Proofs.YtpiifdbicibelaaDoor.PA Go.Proofs.YtpiifdbicibelaaDoor.OpenK
set_option linter.unusedVariables false
set_option linter.unusedSimpArgs false
abbrev G5 := Int × Int × Nat × ByteArray × Int
def bkInt (M : List Int) : G5 := match rawInt M with
  | none => (2, 0, 0, (⟨#[]⟩ : ByteArray), 0)
  | some (m, b, k) => if 9223372036854775808 ≤ m then (2, 0, 0, (⟨#[]⟩ : ByteArray), 0) else (2, intOfRaw m b, 0, (⟨#[]⟩ : ByteArray), ((2 + k : Nat) : Int))
def bkText (t : Int) (M : List Int) : G5 := match textOff [] (toB M) with
  | none => (t - 1, 0, 0, (⟨#[]⟩ : ByteArray), 0)
  | some (u, r) => (t - 1, 0, 0, ⟨u.toArray⟩, (1 + M.length : Int) - r.length)
/-- What the reference reads off the begin of a key, and how many bytes it has; 0: nothing. -/
def bk : List Int → G5
  | [] => (0, 0, 0, (⟨#[]⟩ : ByteArray), 0)
  | t :: M =>
    if t = 1 then (0, 0, 0, (⟨#[]⟩ : ByteArray), 1)
    else if t = 2 then (match M with | [] => (1, 0, 0, (⟨#[]⟩ : ByteArray), 0) | b :: _ => if b < 2 then (1, b, 0, (⟨#[]⟩ : ByteArray), 2) else (1, 0, 0, (⟨#[]⟩ : ByteArray), 0))
    else if t = 3 then bkInt M
    else if t = 4 then (if M.length < 8 then (3, 0, 0, (⟨#[]⟩ : ByteArray), 0) else (3, 0, floatOf (M.take 8), (⟨#[]⟩ : ByteArray), 9))
    else if t = 5 ∨ t = 6 then bkText t M
    else (t - 1, 0, 0, (⟨#[]⟩ : ByteArray), 0)
theorem str_map (u : List UInt8) : strOfNums (u.map fun b => (b.toNat : Int)) = ⟨u.toArray⟩ := by rw [← str_toB, toB_nat]
theorem ofNat_int {a : Int} (h : 0 ≤ a ∧ a ≤ 255) : (((UInt8.ofNat a.toNat).toNat : Nat) : Int) = a := by rw [ofNat_toNat h]; omega
theorem wrap_succ (i : Nat) (h : i < 1000000000) : wrap64 ((i : Int) + 1) = ((i + 1 : Nat) : Int) := by rw [wrap64_id (by omega) (by omega)]; omega
theorem bk_step (k : Nat) (s : ByteArray) (acc : List Int) (i x j : Int) (a b : Int) (c : Nat) (d : ByteArray) (h1 : i < (s.size : Int)) (h0 : 0 ≤ i) (hb : bt s i = x) (hx : ¬ x = 0) (hal : acc.length < 140737488355328) (hw : wrap64 (i + 1) = j) :
    vellumref02_back.l0 (k + 1) s acc i a b c d = vellumref02_back.l0 k s (acc ++ [x]) j a b c d := by
  simp only [vellumref02_back.l0, hb, hw]
  rw [if_pos h1, if_pos h0, if_neg hx, if_pos hal]
set_option maxHeartbeats 2000000 in
theorem bk_text_ev (L : List Int) (hL : Bytes L) (hlen : L.length ≤ 1000000) (a b : Int) (c : Nat) (d : ByteArray) : ∀ (n i : Nat) (acc : List UInt8) (M : List Int), M.length ≤ n → L.drop i = M → i ≤ L.length → acc.length ≤ i →
    Ev (fun k => vellumref02_back.l0 k (strOfNums L) (acc.map fun b => (b.toNat : Int)) (i : Int) a b c d) (match textOff acc (toB M) with | none => (a, b, c, d, 0) | some (u, r) => (a, b, c, (⟨u.toArray⟩ : ByteArray), (L.length : Int) - r.length))
  | n, i, acc, [], _, hd, hi, hacc => by
    have h : L.length ≤ i := List.drop_eq_nil_iff.1 hd
    refine Ev.from_ 1 fun k => ?_
    simp only [vellumref02_back.l0]
    rw [if_neg (by rw [str_size]; omega)]
    simp [toB, textOff]
  | 0, i, acc, b0 :: M, hn, _, _, _ => by simp at hn
  | n + 1, i, acc, b0 :: M, hn, hd, hi, hacc => by
    have hlt : i < L.length := by
      rcases Nat.lt_or_ge i L.length with h | h
      · exact h
      · rw [List.drop_of_length_le h] at hd; cases hd
    have hal : (acc.map fun (b : UInt8) => (b.toNat : Int)).length < 140737488355328 := by rw [List.length_map]; omega
    have i1 : (i : Int) < ((strOfNums L).size : Int) := by rw [str_size]; omega
    have i0 : (0 : Int) ≤ (i : Int) := by omega
    have hget : L[i] = b0 := by
      have := List.drop_eq_getElem_cons hlt
      rw [hd] at this
      injection this with h _
      exact h.symm
    have hd1 : L.drop (i + 1) = M := by
      have := List.drop_eq_getElem_cons hlt
      rw [hd] at this
      injection this with _ h
      exact h.symm
    have hlM : i + 1 + M.length = L.length := by
      have := congrArg List.length hd1
      rw [List.length_drop] at this
      omega
    have hb0 := hL b0 (by rw [← hget]; exact List.getElem_mem hlt)
    have hbt : bt (strOfNums L) (i : Int) = b0 := by rw [str_bt hL i hlt]; exact hget
    have hw := fun _ : True => wrap_succ i (by omega)
    have hw2 := fun _ : True => wrap_succ (i + 1) (by omega)
    have hsz : ((strOfNums L).size : Int) = (L.length : Int) := by rw [str_size]
    by_cases h0 : b0 = 0
    · subst h0
      cases M with
      | nil =>
        refine Ev.from_ 1 fun k => ?_
        simp only [vellumref02_back.l0, hbt, hw trivial, hsz]
        simp at hlM
        rw [if_pos (by omega), if_pos (by omega), if_pos trivial, if_pos (by omega), str_map]
        have e : textOff acc (toB [0]) = some (acc, []) := by
          show textOff acc [0] = _
          exact textOff_zero (fun l' h => by cases h)
        rw [e]
        simp
        omega
      | cons b1 M2 =>
        simp at hlM
        have hlt1 : i + 1 < L.length := by omega
        have hget1 : L[i + 1] = b1 := by
          have := List.drop_eq_getElem_cons hlt1
          rw [hd1] at this
          injection this with h _
          exact h.symm
        have hd2 : L.drop (i + 2) = M2 := by
          have := List.drop_eq_getElem_cons hlt1
          rw [hd1] at this
          injection this with _ h
          exact h.symm
        have hb1 := hL b1 (by rw [← hget1]; exact List.getElem_mem hlt1)
        have hbt1 : bt (strOfNums L) ((i + 1 : Nat) : Int) = b1 := by rw [str_bt hL (i + 1) hlt1]; exact hget1
        by_cases h255 : b1 = 255
        · subst h255
          have e : textOff acc (toB (0 :: 255 :: M2)) = textOff (acc ++ [0]) (toB M2) := by
            show textOff acc (0 :: 255 :: toB M2) = _
            rw [textOff]
          rw [e]
          refine Ev.step (g := fun k => vellumref02_back.l0 k (strOfNums L) ((acc ++ [(0 : UInt8)]).map fun (b : UInt8) => (b.toNat : Int)) ((i + 2 : Nat) : Int) a b c d) (fun k => ?_) (bk_text_ev L hL hlen a b c d n (i + 2) (acc ++ [(0 : UInt8)]) M2 (by simp at hn; omega) hd2 (by omega) (by simp; omega))
          simp only [vellumref02_back.l0, hbt, hw trivial, hsz, hbt1, hw2 trivial]
          rw [if_pos (by omega), if_pos (by omega), if_pos trivial, if_neg (by omega), if_pos (by omega), if_pos (by omega), if_pos trivial, if_pos (by simp; omega), List.map_append]
          rfl
        · have e : textOff acc (toB (0 :: b1 :: M2)) = some (acc, toB (b1 :: M2)) := by
            show textOff acc (0 :: toB (b1 :: M2)) = _
            refine textOff_zero (fun l' h => ?_)
            simp only [toB, List.map_cons, List.cons.injEq] at h
            have e2 := congrArg UInt8.toNat h.1
            rw [ofNat_toNat hb1] at e2
            have : (255 : UInt8).toNat = 255 := rfl
            omega
          rw [e]
          refine Ev.from_ 1 fun k => ?_
          simp only [vellumref02_back.l0, hbt, hw trivial, hsz, hbt1]
          rw [if_pos (by omega), if_pos (by omega), if_pos trivial, if_neg (by omega), if_pos (by omega), if_pos (by omega), if_neg h255, str_map]
          simp [toB]
          omega
    · have hne : UInt8.ofNat b0.toNat ≠ 0 := by
        intro h
        have e2 := congrArg UInt8.toNat h
        rw [ofNat_toNat hb0] at e2
        have : (0 : UInt8).toNat = 0 := rfl
        omega
      have e : textOff acc (toB (b0 :: M)) = textOff (acc ++ [UInt8.ofNat b0.toNat]) (toB M) := by
        show textOff acc (UInt8.ofNat b0.toNat :: toB M) = _
        exact textOff_ne hne
      rw [e]
      clear e hne
      refine Ev.step (g := fun k => vellumref02_back.l0 k (strOfNums L) ((acc ++ [UInt8.ofNat b0.toNat]).map fun (b : UInt8) => (b.toNat : Int)) ((i + 1 : Nat) : Int) a b c d) (fun k => ?_) (bk_text_ev L hL hlen a b c d n (i + 1) (acc ++ [UInt8.ofNat b0.toNat]) M (Nat.le_of_succ_le_succ hn) hd1 hlt (by rw [List.length_append]; exact Nat.succ_le_succ hacc))
      rw [bk_step k (strOfNums L) _ (i : Int) b0 ((i + 1 : Nat) : Int) a b c d i1 i0 hbt h0 hal (hw trivial)]
      have : (((UInt8.ofNat b0.toNat).toNat : Nat) : Int) = b0 := ofNat_int hb0
      simp only [List.map_append, List.map_cons, List.map_nil, this]
theorem back_int_ev (h : Int) (M : List Int) (hL : Bytes (3 :: h :: M)) (hlen : M.length ≤ 1000000) : Ev (fun k => vellumref02_back.j1 k (strOfNums (3 :: h :: M)) true 2 0 0 (⟨#[]⟩ : ByteArray)) (bkInt (h :: M)) := by
  have hh := hL h (by simp)
  have hM : Bytes M := hL.tail.tail
  have hsz : ((strOfNums (3 :: h :: M)).size : Int) = 2 + (M.length : Int) := by rw [str_size]; simp only [List.length_cons]; omega
  have hbt : bt (strOfNums (3 :: h :: M)) 1 = h := str_bt hL 1 (by simp)
  have z64 : ∀ {x : Int}, -1000 ≤ x → x ≤ 10000000 → wrap64 x = x := fun h1 h2 => wrap64_id (by omega) (by omega)
  have e1 : wrap64 (wrap64 h - 128) = h - 128 := by rw [z64 (x := h) (by omega) (by omega), z64 (by omega) (by omega)]
  have e2 : wrap64 (-(h - 128)) = -(h - 128) := z64 (by omega) (by omega)
  -- the rest, from the number of bytes on
  have rest : ∀ k : Nat, (h - 128).natAbs = k → Ev (fun q => vellumref02_back.j2 q (strOfNums (3 :: h :: M)) (h - 128) (k : Int) 2 0 0 (⟨#[]⟩ : ByteArray)) (bkInt (h :: M)) := by
    intro k hk
    unfold bkInt
    simp only [rawInt, hk]
    by_cases h8 : 8 < k
    · rw [if_pos (.inl h8)]
      refine Ev.from_ 2 fun q => ?_
      simp only [vellumref02_back.j2, vellumref02_back.j3]
      rw [if_pos (by omega), if_pos trivial]
    have e3' : True → wrap64 (2 + (k : Int)) = ((2 + k : Nat) : Int) := fun _ => by rw [z64 (by omega) (by omega)]; omega
    by_cases hlen2 : M.length < k
    · rw [if_pos (.inr hlen2)]
      refine Ev.from_ 2 fun q => ?_
      simp only [vellumref02_back.j2, vellumref02_back.j3, e3' trivial, hsz]
      rw [if_neg (by omega), if_pos (decide_eq_true (by omega))]
    rw [if_neg (by omega)]
    have hl : (M.take k).length = k := by rw [List.length_take]; omega
    have hn := num_range (hM.take k)
    rw [hl] at hn
    have hpk : (256 : Int) ^ k ≤ 18446744073709551616 := by
      have h1 : (256 : Nat) ^ k ≤ 256 ^ 8 := Nat.pow_le_pow_right (by decide) (by omega)
      have h2 : ((256 ^ k : Nat) : Int) = (256 : Int) ^ k := by simp
      omega
    have hx : (strOfNums (3 :: h :: M)).extract 2 (((2 + k : Nat) : Int)).toNat = strOfNums (M.take k) := by
      rw [str_take]
      congr 1
      simp
      congr 1
      omega
    have hnum := number_ref_ev (M.take k) (hM.take k) (by omega)
    generalize num (M.take k) = t at hn hnum ⊢
    refine Ev.step (g := fun q => vellumref02_back.j3 q (strOfNums (3 :: h :: M)) (h - 128) (k : Int) false 2 0 0 (⟨#[]⟩ : ByteArray)) (fun q => ?_) ?_
    · simp only [vellumref02_back.j2, e3' trivial, hsz]
      rw [if_neg (by omega), decide_eq_false (by omega)]
    refine Ev.step (g := fun q => (vellumref02_number.f q (strOfNums (M.take k))).bind fun t511 => (if h - 128 < 0 then (if 0 ≤ (IntKind.u64.wrap (wrap64 (8 * (k : Int)))) then (vellumref02_back.j4 q (h - 128) (k : Int) (Go.bits .and .u64 (not64 t511) (IntKind.u64.wrap ((shl .u64 1 (IntKind.u64.wrap (wrap64 (8 * (k : Int))))) - 1))) 2 0 0 (⟨#[]⟩ : ByteArray)) else (none)) else (vellumref02_back.j4 q (h - 128) (k : Int) t511 2 0 0 (⟨#[]⟩ : ByteArray)))) (fun q => ?_) ?_
    · simp only [vellumref02_back.j3, e3' trivial, hsz, hx]
      rw [if_neg (by decide), if_pos (by omega), if_pos (by omega)]
    refine Ev.bind hnum ?_
    rw [show wrap64 (8 * (k : Int)) = 8 * (k : Int) from z64 (by omega) (by omega)]
    by_cases hneg : h < 128
    · have hk1 : 1 ≤ k := by omega
      refine Ev.pos (by omega) (Ev.pos (by rw [u64_wrap_id (by omega) (by omega)]; omega) ?_)
      rw [and_mask t k hn.1 hn.2 hk1 (by omega), if_pos hneg, decide_eq_true hneg]
      generalize hmm : (256 : Int) ^ k - 1 - t = m
      refine Ev.from_ 1 fun q => ?_
      simp only [vellumref02_back.j4, e3' trivial]
      by_cases hbig : 9223372036854775808 ≤ m
      · rw [if_pos (by omega), if_pos hbig]
      · rw [if_neg (by omega), if_neg hbig, if_pos (by omega), wrap64_id (n := m) (by omega) (by omega), wrap64_id (n := -m) (by omega) (by omega), wrap64_id (by omega) (by omega)]
        rfl
    · refine Ev.neg (by omega) ?_
      rw [if_neg hneg, decide_eq_false hneg]
      refine Ev.from_ 1 fun q => ?_
      simp only [vellumref02_back.j4, e3' trivial]
      by_cases hbig : 9223372036854775808 ≤ t
      · rw [if_pos (by omega), if_pos hbig]
      · rw [if_neg (by omega), if_neg hbig, if_neg (by omega), wrap64_id (n := t) (by omega) (by omega)]
        rfl
  by_cases hneg : h < 128
  · obtain ⟨k, hk⟩ : ∃ k : Nat, (k : Int) = -(h - 128) := ⟨(128 - h).toNat, by omega⟩
    refine Ev.step (g := fun q => vellumref02_back.j2 q (strOfNums (3 :: h :: M)) (h - 128) (k : Int) 2 0 0 (⟨#[]⟩ : ByteArray)) (fun q => ?_) (rest k (by omega))
    simp only [vellumref02_back.j1, hbt, e1, e2, hsz, hk]
    rw [if_pos trivial, if_pos (by omega), if_pos (by omega)]
  · obtain ⟨k, hk⟩ : ∃ k : Nat, (k : Int) = h - 128 := ⟨(h - 128).toNat, by omega⟩
    refine Ev.step (g := fun q => vellumref02_back.j2 q (strOfNums (3 :: h :: M)) (h - 128) (k : Int) 2 0 0 (⟨#[]⟩ : ByteArray)) (fun q => ?_) (rest k (by omega))
    simp only [vellumref02_back.j1, hbt, e1, hsz]
    rw [if_pos trivial, if_pos (by omega), if_neg (by omega), hk]
theorem back_ev (L : List Int) (hL : Bytes L) (hne : L ≠ []) (hlen : L.length ≤ 1000000) : Ev (fun k => vellumref02_back.f k (strOfNums L)) (bk L) := by
  cases L with
  | nil => exact absurd rfl hne
  | cons t M =>
    have hM := hL.tail
    have ht := hL t (by simp)
    have hb0 : bt (strOfNums (t :: M)) 0 = t := str_bt hL 0 (by simp)
    have hsz : ((strOfNums (t :: M)).size : Int) = 1 + (M.length : Int) := by rw [str_size]; simp only [List.length_cons]; omega
    have hw : wrap64 (wrap64 t - 1) = t - 1 := by rw [wrap64_id (n := t) (by omega) (by omega), wrap64_id (by omega) (by omega)]
    have hbt : ∀ b M', M = b :: M' → bt (strOfNums (t :: M)) 1 = b := by
      intro b M' e; subst e; exact str_bt hL 1 (by simp)
    simp only [vellumref02_back.f, hb0, hw, hsz]
    refine Ev.pos (by omega) ?_
    simp only [bk]
    by_cases h1 : t = 1
    · rw [if_pos h1]
      refine Ev.pos (by omega) ?_
      subst h1
      exact Ev.pure
    rw [if_neg h1]
    refine Ev.neg (by omega) ?_
    by_cases h2 : t = 2
    · rw [if_pos h2]
      refine Ev.pos (by omega) ?_
      subst h2
      cases M with
      | nil =>
        refine Ev.neg (by simp) (Ev.from_ 4 fun k => ?_)
        simp only [vellumref02_back.j0, vellumref02_back.j1, vellumref02_back.j5, vellumref02_back.j6]
        simp
      | cons b M' =>
        have hbb := hbt b M' rfl
        simp only [hbb, List.length_cons]
        refine Ev.pos (by omega) (Ev.pos (by omega) ?_)
        have hb := hM b (by simp)
        by_cases h3 : b < 2
        · rw [if_pos h3, decide_eq_true h3]
          refine Ev.from_ 1 fun k => ?_
          simp only [vellumref02_back.j0, hbb]
          rw [if_pos trivial, if_pos (by rw [hsz]; simp only [List.length_cons]; omega), wrap64_id (by omega) (by omega)]
          rfl
        · rw [if_neg h3, decide_eq_false h3]
          refine Ev.from_ 4 fun k => ?_
          simp only [vellumref02_back.j0, vellumref02_back.j1, vellumref02_back.j5, vellumref02_back.j6]
          simp
    rw [if_neg h2]
    refine Ev.neg (by omega) ?_
    by_cases h3 : t = 3
    · rw [if_pos h3]
      subst h3
      cases M with
      | nil =>
        refine Ev.from_ 4 fun k => ?_
        simp only [vellumref02_back.j0, vellumref02_back.j1, vellumref02_back.j5, vellumref02_back.j6, hsz]
        simp [bkInt, rawInt]
      | cons h M' =>
        refine Ev.step (g := fun k => vellumref02_back.j1 k (strOfNums (3 :: h :: M')) true 2 0 0 (⟨#[]⟩ : ByteArray)) (fun k => ?_) (back_int_ev h M' hL (by simp at hlen; omega))
        simp only [vellumref02_back.j0, hsz]
        rw [if_neg (by decide), if_pos (by decide), decide_eq_true (by simp only [List.length_cons]; omega)]
        rfl
    rw [if_neg h3]
    by_cases h4 : t = 4
    · rw [if_pos h4]
      subst h4
      by_cases h : M.length < 8
      · rw [if_pos h]
        refine Ev.from_ 4 fun k => ?_
        simp only [vellumref02_back.j0, vellumref02_back.j1, vellumref02_back.j5, vellumref02_back.j6, hsz]
        rw [if_neg (by decide), if_neg (by decide), if_neg (by decide), if_pos (by decide), if_neg (by simp; omega), if_neg (by decide), if_neg (by decide)]
        rfl
      · rw [if_neg h]
        have hl : (M.take 8).length = 8 := by rw [List.length_take]; omega
        have hr := num_range (hM.take 8)
        rw [hl] at hr
        have e : (256 : Int) ^ 8 = 18446744073709551616 := by decide
        have hx : (strOfNums (4 :: M)).extract 1 9 = strOfNums (M.take 8) := by rw [str_take]; rfl
        refine Ev.step (g := fun k => vellumref02_back.j1 k (strOfNums (4 :: M)) false 3 0 0 (⟨#[]⟩ : ByteArray)) (fun k => ?_) (Ev.step (g := fun k => vellumref02_back.j5 k (strOfNums (4 :: M)) true 3 0 0 (⟨#[]⟩ : ByteArray)) (fun k => ?_) (Ev.step (g := fun k => (vellumref02_number.f k (strOfNums (M.take 8))).bind fun t512 => (if (t512 / 9223372036854775808) > 0 then (some ((3 : Int), (0 : Int), (Go.bits .xor .u64 t512 9223372036854775808).toNat, (⟨#[]⟩ : ByteArray), (9 : Int))) else (some (3, 0, (not64 t512).toNat, (⟨#[]⟩ : ByteArray), 9)))) (fun k => ?_) ?_))
        · simp only [vellumref02_back.j0]
          rw [if_neg (by decide), if_neg (by decide)]
          rfl
        · simp only [vellumref02_back.j1, hsz]
          rw [if_neg (by decide), if_pos (by decide), decide_eq_true (by omega)]
        · simp only [vellumref02_back.j5, hsz, hx]
          rw [if_pos trivial, if_pos (by decide), if_pos (by omega)]
        · refine Ev.bind (number_ref_ev (M.take 8) (hM.take 8) (by omega)) ?_
          unfold floatOf
          by_cases hb : 9223372036854775808 ≤ num (M.take 8)
          · rw [if_pos hb, xor_down _ hb (by omega)]
            exact Ev.pos (by omega) Ev.pure
          · rw [if_neg hb, not64_eq _ (by omega) (by omega)]
            exact Ev.neg (by omega) Ev.pure
    rw [if_neg h4]
    by_cases h56 : t = 5 ∨ t = 6
    · rw [if_pos h56]
      have hgo := bk_text_ev (t :: M) hL hlen (t - 1) 0 0 (⟨#[]⟩ : ByteArray) M.length 1 [] M (Nat.le_refl _) rfl (by simp) (by simp)
      refine Ev.step (g := fun k => vellumref02_back.j1 k (strOfNums (t :: M)) false (t - 1) 0 0 (⟨#[]⟩ : ByteArray)) (fun k => ?_) (Ev.step (g := fun k => vellumref02_back.j5 k (strOfNums (t :: M)) false (t - 1) 0 0 (⟨#[]⟩ : ByteArray)) (fun k => ?_) (Ev.step (g := fun k => vellumref02_back.j6 k (strOfNums (t :: M)) true (t - 1) 0 0 (⟨#[]⟩ : ByteArray)) (fun k => ?_) (Ev.step (g := fun k => vellumref02_back.l0 k (strOfNums (t :: M)) ([] : List Int) 1 (t - 1) 0 0 (⟨#[]⟩ : ByteArray)) (fun k => ?_) ?_)))
      · simp only [vellumref02_back.j0]
        rw [if_neg (by decide), if_neg (by omega)]
      · simp only [vellumref02_back.j1]
        rw [if_neg (by decide), if_neg (by omega)]
      · simp only [vellumref02_back.j5]
        rw [if_neg (by decide)]
        rcases h56 with rfl | rfl
        · rw [if_pos (by decide)]
        · rw [if_neg (by decide)]; rfl
      · simp only [vellumref02_back.j6]
        rw [if_pos trivial]
      · have e : bkText t M = (match textOff [] (toB M) with | none => (t - 1, 0, 0, (⟨#[]⟩ : ByteArray), 0) | some (u, r) => (t - 1, 0, 0, (⟨u.toArray⟩ : ByteArray), ((t :: M).length : Int) - r.length)) := by
          unfold bkText
          cases textOff [] (toB M) with
          | none => rfl
          | some p => simp only [List.length_cons]; congr 4; omega
        rw [e]
        exact hgo
    · rw [if_neg h56]
      refine Ev.from_ 4 fun k => ?_
      simp only [vellumref02_back.j0, vellumref02_back.j1, vellumref02_back.j5, vellumref02_back.j6]
      have b5 : (t - 1 == 5) = false := by rw [beq_eq_false_iff_ne]; omega
      rw [if_neg (by decide), if_neg (by omega), if_neg (by decide), if_neg (by omega), if_neg (by decide), if_neg (by omega), b5, if_neg (by decide)]
end Go.Proofs.YtpiifdbicibelaaDoor.Pure
end
section
namespace Go.Proofs.YtpiifdbicibelaaDoor.PA
open Go.RowKit Go.Proofs.YtpiifdbicibelaaDoorW.PrintWords Go.Proofs.YtpiifdbicibelaaDoorW.PrintLast Go.Proofs.YtpiifdbicibelaaDoorW.PrintMore
attribute [local go_sem] max2_int min2_int max_two min_two max_three min_three max_four min_four   -- for this text's walks alone
set_option linter.unusedVariables false
set_option linter.unusedSimpArgs false
def vellumref02_Decode.l0 : Nat → ByteArray → List (S50) → Int → Option ((List (S50)) × Int)
  | 0, _, _, _ => none
  | k + 1, x0, x4, x5 => if x5 < (x0.size : Int) then (if 0 ≤ x5 then (if x5 ≤ (x0.size : Int) then ((vellumref02_back.f k (x0.extract (x5 : Int).toNat x0.size)).bind fun bt519 => (if bt519.2.2.2.2 = 0 then (some (([] : List (S50)), 20)) else (if x4.length < 3518437208883 then (vellumref02_Decode.l0 k x0 (x4 ++ [(⟨bt519.1, bt519.2.1, bt519.2.2.1, bt519.2.2.2.1⟩ : S50)]) (wrap64 (x5 + bt519.2.2.2.2))) else (none)))) else (none)) else (none)) else ((vellumref02_Encode.f k x4).bind fun bt528 => (if bt528.2 = 0 then (if bt528.1.toList = x0.toList then (some (x4, 0)) else (some (([] : List (S50)), 20))) else (some (([] : List (S50)), 20))))
def vellumref02_Decode.f (k : Nat) (a0 : ByteArray) : Option ((List (S50)) × Int) := if (a0.size : Int) > 1024 then (some (([] : List (S50)), 3)) else (vellumref02_Decode.l0 k a0 ([] : List (S50)) 0)
def vellumref01_Same.f (a0_0 : Int) (a0_1 : Int) (a0_2 : Nat) (a0_3 : ByteArray) (a1_0 : Int) (a1_1 : Int) (a1_2 : Nat) (a1_3 : ByteArray) : Option (Bool) := if a0_0 = a1_0 then (if a0_1 = a1_1 then (if ((a0_2 : Nat) : Int) = ((a1_2 : Nat) : Int) then (some (a0_3.toList == a1_3.toList)) else (some false)) else (some false)) else (some false)
set_option maxHeartbeats 8000000 in
set_option maxRecDepth 100000 in
theorem vellumref01_Same.calls (a0_0 : Int) (a0_1 : Int) (a0_2 : Nat) (a0_3 : ByteArray) (a1_0 : Int) (a1_1 : Int) (a1_2 : Nat) (a1_3 : ByteArray) (r : Bool) (w : World) (h : vellumref01_Same.f a0_0 a0_1 a0_2 a0_3 a1_0 a1_1 a1_2 a1_3 = some r) :
    Calls Tryd.prog 46 #[.agg #[.int .i64 a0_0, .int .i64 a0_1, .float .f64 a0_2, .string a0_3], .agg #[.int .i64 a1_0, .int .i64 a1_1, .float .f64 a1_2, .string a1_3]] w fun e w' => e = .returned (.bool r) ∧ Below w.heap.size w w' := by
  have hu50 := Tryd.underlying50
  have HB := Aside0.mk (Below.refl w.heap.size w)
  have H : (if a0_0 = a1_0 then (if a0_1 = a1_1 then (if ((a0_2 : Nat) : Int) = ((a1_2 : Nat) : Int) then (some (a0_3.toList == a1_3.toList)) else (some false)) else (some false)) else (some false)) = some r := h
  clear h
  by_cases c3 : a0_0 = a1_0
  · rw [if_pos c3] at H
    have c3b0 : (a0_0 == a1_0) = true := beq_iff_eq.mpr c3
    have c3b1 : (a0_0 != a1_0) = false := bne_eq_false_iff_eq.mpr c3
    clear c3
    by_cases c4 : a0_1 = a1_1
    · rw [if_pos c4] at H
      have c4b0 : (a0_1 == a1_1) = true := beq_iff_eq.mpr c4
      have c4b1 : (a0_1 != a1_1) = false := bne_eq_false_iff_eq.mpr c4
      clear c4
      by_cases c5 : ((a0_2 : Nat) : Int) = ((a1_2 : Nat) : Int)
      · rw [if_pos c5] at H
        have c5b0 : (((a0_2 : Nat) : Int) == ((a1_2 : Nat) : Int)) = true := beq_iff_eq.mpr c5
        have c5b1 : (((a0_2 : Nat) : Int) != ((a1_2 : Nat) : Int)) = false := bne_eq_false_iff_eq.mpr c5
        clear c5
        obtain rfl := Option.some.inj H
        go_enter Tryd.func46, Tryd.ntmps46
        go_wp2_with (first | ((with_reducible refine gate_dst (N := 2) rfl ?_); refine box_event ?hg (N := 2) ?hd (cs := #[.int .i64 a0_0, .int .i64 a0_1, .float .f64 a0_2, .string a0_3]) (t := 50) ?hr ?_; (case hd => rfl); (case hg => rfl); (case hr => first | (go_simp; done) | (go_simp; rfl)); intro gb530 hg w6 hbox hb; have n0_ := Aside0.mk (below_step (by repeat (first | (with_reducible first | exact HB.out | apply below_alloc | apply pw_below_drewN | apply below_drew1) | exact HB.out)) hb); have n1_ := Aside0.mk (hbox); have n2_ := Aside0.mk ((by rw [hg]; exact (below_size (by repeat (first | (with_reducible first | exact HB.out | apply below_alloc | apply pw_below_drewN | apply below_drew1) | exact HB.out))) : w.heap.size ≤ gb530)); have n3_ := Aside0.mk ((by rw [hg]; exact (below_size (by repeat (first | (with_reducible first | exact HB.out | apply below_alloc | apply pw_below_drewN | apply below_drew1) | exact HB.out))) : w.heap.size ≤ gb530)); clear HB; have HB := n0_; have BK530 := n1_; have GW530 := n2_; have GE530 := n3_; clear n0_ n1_ n2_ n3_; clear hb hbox hg) | ((with_reducible refine gate_dst (N := 3) rfl ?_); refine box_event ?hg (N := 3) ?hd (cs := #[.int .i64 a1_0, .int .i64 a1_1, .float .f64 a1_2, .string a1_3]) (t := 50) ?hr ?_; (case hd => rfl); (case hg => rfl); (case hr => first | (go_simp; done) | (go_simp; rfl)); intro gb531 hg w7 hbox hb; have n0_ := Aside0.mk (blk_below (g := gb530) (o := .cells #[.int .i64 a0_0, .int .i64 a0_1, .float .f64 a0_2, .string a0_3] 50 (0, 0)) (by (with_reducible repeat (first | refine blk_drewN ?_ _ | refine blk_drew ?_ | refine blk_alloc ?_ _)); exact BK530.out) hb); have n1_ := Aside0.mk (below_step (by repeat (first | (with_reducible first | exact HB.out | apply below_alloc | apply pw_below_drewN | apply below_drew1 | refine below_set ?_ GE530.out) | exact HB.out)) hb); have n2_ := Aside0.mk (hbox); have n3_ := Aside0.mk ((by rw [hg]; exact (below_size (by repeat (first | (with_reducible first | exact HB.out | apply below_alloc | apply pw_below_drewN | apply below_drew1 | refine below_set ?_ GE530.out) | exact HB.out))) : w.heap.size ≤ gb531)); have n4_ := Aside0.mk ((by rw [hg]; exact (below_size (by repeat (first | (with_reducible first | exact HB.out | apply below_alloc | apply pw_below_drewN | apply below_drew1 | refine below_set ?_ GE530.out) | exact HB.out))) : w.heap.size ≤ gb531)); have n5_ := Aside0.mk ((by rw [hg]; exact Nat.ne_of_lt (blk_lt (g := gb530) (o := .cells #[.int .i64 a0_0, .int .i64 a0_1, .float .f64 a0_2, .string a0_3] 50 (0, 0)) (by (with_reducible repeat (first | refine blk_drewN ?_ _ | refine blk_drew ?_ | refine blk_alloc ?_ _)); exact BK530.out)) : gb530 ≠ gb531)); have n6_ := Aside0.mk ((by rw [hg]; exact Nat.ne_of_gt (blk_lt (g := gb530) (o := .cells #[.int .i64 a0_0, .int .i64 a0_1, .float .f64 a0_2, .string a0_3] 50 (0, 0)) (by (with_reducible repeat (first | refine blk_drewN ?_ _ | refine blk_drew ?_ | refine blk_alloc ?_ _)); exact BK530.out)) : gb531 ≠ gb530)); clear BK530; clear HB; have BK530 := n0_; have HB := n1_; have BK531 := n2_; have GW531 := n3_; have GE531 := n4_; have NB530_531 := n5_; have NB531_530 := n6_; clear n0_ n1_ n2_ n3_ n4_ n5_ n6_; clear hb hbox hg; have hnb8 := NB530_531.out; have hnc8 := NB531_530.out; have hcz9_0 : w7.cell? ⟨gb530, 0, none⟩ = some (.int .i64 a0_0) := (blk_cell BK530.out 0).trans rfl; have hcz9_1 : w7.cell? ⟨gb530, 1, none⟩ = some (.int .i64 a0_1) := (blk_cell BK530.out 1).trans rfl; have hcz9_2 : w7.cell? ⟨gb530, 2, none⟩ = some (.float .f64 a0_2) := (blk_cell BK530.out 2).trans rfl; have hcz9_3 : w7.cell? ⟨gb530, 3, none⟩ = some (.string a0_3) := (blk_cell BK530.out 3).trans rfl; have hfz9_0 := blk_frozen BK530.out 0; have hfz9_1 := blk_frozen BK530.out 1; have hfz9_2 := blk_frozen BK530.out 2; have hfz9_3 := blk_frozen BK530.out 3; have hcz10_0 : w7.cell? ⟨gb531, 0, none⟩ = some (.int .i64 a1_0) := (blk_cell BK531.out 0).trans rfl; have hcz10_1 : w7.cell? ⟨gb531, 1, none⟩ = some (.int .i64 a1_1) := (blk_cell BK531.out 1).trans rfl; have hcz10_2 : w7.cell? ⟨gb531, 2, none⟩ = some (.float .f64 a1_2) := (blk_cell BK531.out 2).trans rfl; have hcz10_3 : w7.cell? ⟨gb531, 3, none⟩ = some (.string a1_3) := (blk_cell BK531.out 3).trans rfl; have hfz10_0 := blk_frozen BK531.out 0; have hfz10_1 := blk_frozen BK531.out 1; have hfz10_2 := blk_frozen BK531.out 2; have hfz10_3 := blk_frozen BK531.out 3))
        repeat (go_quiet (first | ((with_reducible refine gate_dst (N := 2) rfl ?_); refine box_event ?hg (N := 2) ?hd (cs := #[.int .i64 a0_0, .int .i64 a0_1, .float .f64 a0_2, .string a0_3]) (t := 50) ?hr ?_; (case hd => rfl); (case hg => rfl); (case hr => first | (go_simp; done) | (go_simp; rfl)); intro gb530 hg w6 hbox hb; have n0_ := Aside0.mk (below_step (by repeat (first | (with_reducible first | exact HB.out | apply below_alloc | apply pw_below_drewN | apply below_drew1) | exact HB.out)) hb); have n1_ := Aside0.mk (hbox); have n2_ := Aside0.mk ((by rw [hg]; exact (below_size (by repeat (first | (with_reducible first | exact HB.out | apply below_alloc | apply pw_below_drewN | apply below_drew1) | exact HB.out))) : w.heap.size ≤ gb530)); have n3_ := Aside0.mk ((by rw [hg]; exact (below_size (by repeat (first | (with_reducible first | exact HB.out | apply below_alloc | apply pw_below_drewN | apply below_drew1) | exact HB.out))) : w.heap.size ≤ gb530)); clear HB; have HB := n0_; have BK530 := n1_; have GW530 := n2_; have GE530 := n3_; clear n0_ n1_ n2_ n3_; clear hb hbox hg) | ((with_reducible refine gate_dst (N := 3) rfl ?_); refine box_event ?hg (N := 3) ?hd (cs := #[.int .i64 a1_0, .int .i64 a1_1, .float .f64 a1_2, .string a1_3]) (t := 50) ?hr ?_; (case hd => rfl); (case hg => rfl); (case hr => first | (go_simp; done) | (go_simp; rfl)); intro gb531 hg w7 hbox hb; have n0_ := Aside0.mk (blk_below (g := gb530) (o := .cells #[.int .i64 a0_0, .int .i64 a0_1, .float .f64 a0_2, .string a0_3] 50 (0, 0)) (by (with_reducible repeat (first | refine blk_drewN ?_ _ | refine blk_drew ?_ | refine blk_alloc ?_ _)); exact BK530.out) hb); have n1_ := Aside0.mk (below_step (by repeat (first | (with_reducible first | exact HB.out | apply below_alloc | apply pw_below_drewN | apply below_drew1 | refine below_set ?_ GE530.out) | exact HB.out)) hb); have n2_ := Aside0.mk (hbox); have n3_ := Aside0.mk ((by rw [hg]; exact (below_size (by repeat (first | (with_reducible first | exact HB.out | apply below_alloc | apply pw_below_drewN | apply below_drew1 | refine below_set ?_ GE530.out) | exact HB.out))) : w.heap.size ≤ gb531)); have n4_ := Aside0.mk ((by rw [hg]; exact (below_size (by repeat (first | (with_reducible first | exact HB.out | apply below_alloc | apply pw_below_drewN | apply below_drew1 | refine below_set ?_ GE530.out) | exact HB.out))) : w.heap.size ≤ gb531)); have n5_ := Aside0.mk ((by rw [hg]; exact Nat.ne_of_lt (blk_lt (g := gb530) (o := .cells #[.int .i64 a0_0, .int .i64 a0_1, .float .f64 a0_2, .string a0_3] 50 (0, 0)) (by (with_reducible repeat (first | refine blk_drewN ?_ _ | refine blk_drew ?_ | refine blk_alloc ?_ _)); exact BK530.out)) : gb530 ≠ gb531)); have n6_ := Aside0.mk ((by rw [hg]; exact Nat.ne_of_gt (blk_lt (g := gb530) (o := .cells #[.int .i64 a0_0, .int .i64 a0_1, .float .f64 a0_2, .string a0_3] 50 (0, 0)) (by (with_reducible repeat (first | refine blk_drewN ?_ _ | refine blk_drew ?_ | refine blk_alloc ?_ _)); exact BK530.out)) : gb531 ≠ gb530)); clear BK530; clear HB; have BK530 := n0_; have HB := n1_; have BK531 := n2_; have GW531 := n3_; have GE531 := n4_; have NB530_531 := n5_; have NB531_530 := n6_; clear n0_ n1_ n2_ n3_ n4_ n5_ n6_; clear hb hbox hg; have hnb8 := NB530_531.out; have hnc8 := NB531_530.out; have hcz9_0 : w7.cell? ⟨gb530, 0, none⟩ = some (.int .i64 a0_0) := (blk_cell BK530.out 0).trans rfl; have hcz9_1 : w7.cell? ⟨gb530, 1, none⟩ = some (.int .i64 a0_1) := (blk_cell BK530.out 1).trans rfl; have hcz9_2 : w7.cell? ⟨gb530, 2, none⟩ = some (.float .f64 a0_2) := (blk_cell BK530.out 2).trans rfl; have hcz9_3 : w7.cell? ⟨gb530, 3, none⟩ = some (.string a0_3) := (blk_cell BK530.out 3).trans rfl; have hfz9_0 := blk_frozen BK530.out 0; have hfz9_1 := blk_frozen BK530.out 1; have hfz9_2 := blk_frozen BK530.out 2; have hfz9_3 := blk_frozen BK530.out 3; have hcz10_0 : w7.cell? ⟨gb531, 0, none⟩ = some (.int .i64 a1_0) := (blk_cell BK531.out 0).trans rfl; have hcz10_1 : w7.cell? ⟨gb531, 1, none⟩ = some (.int .i64 a1_1) := (blk_cell BK531.out 1).trans rfl; have hcz10_2 : w7.cell? ⟨gb531, 2, none⟩ = some (.float .f64 a1_2) := (blk_cell BK531.out 2).trans rfl; have hcz10_3 : w7.cell? ⟨gb531, 3, none⟩ = some (.string a1_3) := (blk_cell BK531.out 3).trans rfl; have hfz10_0 := blk_frozen BK531.out 0; have hfz10_1 := blk_frozen BK531.out 1; have hfz10_2 := blk_frozen BK531.out 2; have hfz10_3 := blk_frozen BK531.out 3)); try go_wp2_with (first | ((with_reducible refine gate_dst (N := 2) rfl ?_); refine box_event ?hg (N := 2) ?hd (cs := #[.int .i64 a0_0, .int .i64 a0_1, .float .f64 a0_2, .string a0_3]) (t := 50) ?hr ?_; (case hd => rfl); (case hg => rfl); (case hr => first | (go_simp; done) | (go_simp; rfl)); intro gb530 hg w6 hbox hb; have n0_ := Aside0.mk (below_step (by repeat (first | (with_reducible first | exact HB.out | apply below_alloc | apply pw_below_drewN | apply below_drew1) | exact HB.out)) hb); have n1_ := Aside0.mk (hbox); have n2_ := Aside0.mk ((by rw [hg]; exact (below_size (by repeat (first | (with_reducible first | exact HB.out | apply below_alloc | apply pw_below_drewN | apply below_drew1) | exact HB.out))) : w.heap.size ≤ gb530)); have n3_ := Aside0.mk ((by rw [hg]; exact (below_size (by repeat (first | (with_reducible first | exact HB.out | apply below_alloc | apply pw_below_drewN | apply below_drew1) | exact HB.out))) : w.heap.size ≤ gb530)); clear HB; have HB := n0_; have BK530 := n1_; have GW530 := n2_; have GE530 := n3_; clear n0_ n1_ n2_ n3_; clear hb hbox hg) | ((with_reducible refine gate_dst (N := 3) rfl ?_); refine box_event ?hg (N := 3) ?hd (cs := #[.int .i64 a1_0, .int .i64 a1_1, .float .f64 a1_2, .string a1_3]) (t := 50) ?hr ?_; (case hd => rfl); (case hg => rfl); (case hr => first | (go_simp; done) | (go_simp; rfl)); intro gb531 hg w7 hbox hb; have n0_ := Aside0.mk (blk_below (g := gb530) (o := .cells #[.int .i64 a0_0, .int .i64 a0_1, .float .f64 a0_2, .string a0_3] 50 (0, 0)) (by (with_reducible repeat (first | refine blk_drewN ?_ _ | refine blk_drew ?_ | refine blk_alloc ?_ _)); exact BK530.out) hb); have n1_ := Aside0.mk (below_step (by repeat (first | (with_reducible first | exact HB.out | apply below_alloc | apply pw_below_drewN | apply below_drew1 | refine below_set ?_ GE530.out) | exact HB.out)) hb); have n2_ := Aside0.mk (hbox); have n3_ := Aside0.mk ((by rw [hg]; exact (below_size (by repeat (first | (with_reducible first | exact HB.out | apply below_alloc | apply pw_below_drewN | apply below_drew1 | refine below_set ?_ GE530.out) | exact HB.out))) : w.heap.size ≤ gb531)); have n4_ := Aside0.mk ((by rw [hg]; exact (below_size (by repeat (first | (with_reducible first | exact HB.out | apply below_alloc | apply pw_below_drewN | apply below_drew1 | refine below_set ?_ GE530.out) | exact HB.out))) : w.heap.size ≤ gb531)); have n5_ := Aside0.mk ((by rw [hg]; exact Nat.ne_of_lt (blk_lt (g := gb530) (o := .cells #[.int .i64 a0_0, .int .i64 a0_1, .float .f64 a0_2, .string a0_3] 50 (0, 0)) (by (with_reducible repeat (first | refine blk_drewN ?_ _ | refine blk_drew ?_ | refine blk_alloc ?_ _)); exact BK530.out)) : gb530 ≠ gb531)); have n6_ := Aside0.mk ((by rw [hg]; exact Nat.ne_of_gt (blk_lt (g := gb530) (o := .cells #[.int .i64 a0_0, .int .i64 a0_1, .float .f64 a0_2, .string a0_3] 50 (0, 0)) (by (with_reducible repeat (first | refine blk_drewN ?_ _ | refine blk_drew ?_ | refine blk_alloc ?_ _)); exact BK530.out)) : gb531 ≠ gb530)); clear BK530; clear HB; have BK530 := n0_; have HB := n1_; have BK531 := n2_; have GW531 := n3_; have GE531 := n4_; have NB530_531 := n5_; have NB531_530 := n6_; clear n0_ n1_ n2_ n3_ n4_ n5_ n6_; clear hb hbox hg; have hnb8 := NB530_531.out; have hnc8 := NB531_530.out; have hcz9_0 : w7.cell? ⟨gb530, 0, none⟩ = some (.int .i64 a0_0) := (blk_cell BK530.out 0).trans rfl; have hcz9_1 : w7.cell? ⟨gb530, 1, none⟩ = some (.int .i64 a0_1) := (blk_cell BK530.out 1).trans rfl; have hcz9_2 : w7.cell? ⟨gb530, 2, none⟩ = some (.float .f64 a0_2) := (blk_cell BK530.out 2).trans rfl; have hcz9_3 : w7.cell? ⟨gb530, 3, none⟩ = some (.string a0_3) := (blk_cell BK530.out 3).trans rfl; have hfz9_0 := blk_frozen BK530.out 0; have hfz9_1 := blk_frozen BK530.out 1; have hfz9_2 := blk_frozen BK530.out 2; have hfz9_3 := blk_frozen BK530.out 3; have hcz10_0 : w7.cell? ⟨gb531, 0, none⟩ = some (.int .i64 a1_0) := (blk_cell BK531.out 0).trans rfl; have hcz10_1 : w7.cell? ⟨gb531, 1, none⟩ = some (.int .i64 a1_1) := (blk_cell BK531.out 1).trans rfl; have hcz10_2 : w7.cell? ⟨gb531, 2, none⟩ = some (.float .f64 a1_2) := (blk_cell BK531.out 2).trans rfl; have hcz10_3 : w7.cell? ⟨gb531, 3, none⟩ = some (.string a1_3) := (blk_cell BK531.out 3).trans rfl; have hfz10_0 := blk_frozen BK531.out 0; have hfz10_1 := blk_frozen BK531.out 1; have hfz10_2 := blk_frozen BK531.out 2; have hfz10_3 := blk_frozen BK531.out 3)))
        go_ret
        exact ⟨by first | rfl | (simp [errW_none, errW_some] <;> rfl) | (simp [*, errW_none, errW_some] <;> rfl), by repeat (first | (with_reducible first | exact HB.out | apply below_alloc | apply pw_below_drewN | apply below_drew1 | refine below_set ?_ GE530.out | refine below_set ?_ GE531.out) | exact HB.out)⟩
      · rw [if_neg c5] at H
        have c5b0 : (((a0_2 : Nat) : Int) == ((a1_2 : Nat) : Int)) = false := beq_eq_false_iff_ne.mpr c5
        have c5b1 : (((a0_2 : Nat) : Int) != ((a1_2 : Nat) : Int)) = true := bne_iff_ne.mpr c5
        obtain rfl := Option.some.inj H
        go_enter Tryd.func46, Tryd.ntmps46
        go_wp2_with (first | ((with_reducible refine gate_dst (N := 2) rfl ?_); refine box_event ?hg (N := 2) ?hd (cs := #[.int .i64 a0_0, .int .i64 a0_1, .float .f64 a0_2, .string a0_3]) (t := 50) ?hr ?_; (case hd => rfl); (case hg => rfl); (case hr => first | (go_simp; done) | (go_simp; rfl)); intro gb530 hg w11 hbox hb; have n0_ := Aside0.mk (below_step (by repeat (first | (with_reducible first | exact HB.out | apply below_alloc | apply pw_below_drewN | apply below_drew1) | exact HB.out)) hb); have n1_ := Aside0.mk (hbox); have n2_ := Aside0.mk ((by rw [hg]; exact (below_size (by repeat (first | (with_reducible first | exact HB.out | apply below_alloc | apply pw_below_drewN | apply below_drew1) | exact HB.out))) : w.heap.size ≤ gb530)); have n3_ := Aside0.mk ((by rw [hg]; exact (below_size (by repeat (first | (with_reducible first | exact HB.out | apply below_alloc | apply pw_below_drewN | apply below_drew1) | exact HB.out))) : w.heap.size ≤ gb530)); clear HB; have HB := n0_; have BK530 := n1_; have GW530 := n2_; have GE530 := n3_; clear n0_ n1_ n2_ n3_; clear hb hbox hg) | ((with_reducible refine gate_dst (N := 3) rfl ?_); refine box_event ?hg (N := 3) ?hd (cs := #[.int .i64 a1_0, .int .i64 a1_1, .float .f64 a1_2, .string a1_3]) (t := 50) ?hr ?_; (case hd => rfl); (case hg => rfl); (case hr => first | (go_simp; done) | (go_simp; rfl)); intro gb531 hg w12 hbox hb; have n0_ := Aside0.mk (blk_below (g := gb530) (o := .cells #[.int .i64 a0_0, .int .i64 a0_1, .float .f64 a0_2, .string a0_3] 50 (0, 0)) (by (with_reducible repeat (first | refine blk_drewN ?_ _ | refine blk_drew ?_ | refine blk_alloc ?_ _)); exact BK530.out) hb); have n1_ := Aside0.mk (below_step (by repeat (first | (with_reducible first | exact HB.out | apply below_alloc | apply pw_below_drewN | apply below_drew1 | refine below_set ?_ GE530.out) | exact HB.out)) hb); have n2_ := Aside0.mk (hbox); have n3_ := Aside0.mk ((by rw [hg]; exact (below_size (by repeat (first | (with_reducible first | exact HB.out | apply below_alloc | apply pw_below_drewN | apply below_drew1 | refine below_set ?_ GE530.out) | exact HB.out))) : w.heap.size ≤ gb531)); have n4_ := Aside0.mk ((by rw [hg]; exact (below_size (by repeat (first | (with_reducible first | exact HB.out | apply below_alloc | apply pw_below_drewN | apply below_drew1 | refine below_set ?_ GE530.out) | exact HB.out))) : w.heap.size ≤ gb531)); have n5_ := Aside0.mk ((by rw [hg]; exact Nat.ne_of_lt (blk_lt (g := gb530) (o := .cells #[.int .i64 a0_0, .int .i64 a0_1, .float .f64 a0_2, .string a0_3] 50 (0, 0)) (by (with_reducible repeat (first | refine blk_drewN ?_ _ | refine blk_drew ?_ | refine blk_alloc ?_ _)); exact BK530.out)) : gb530 ≠ gb531)); have n6_ := Aside0.mk ((by rw [hg]; exact Nat.ne_of_gt (blk_lt (g := gb530) (o := .cells #[.int .i64 a0_0, .int .i64 a0_1, .float .f64 a0_2, .string a0_3] 50 (0, 0)) (by (with_reducible repeat (first | refine blk_drewN ?_ _ | refine blk_drew ?_ | refine blk_alloc ?_ _)); exact BK530.out)) : gb531 ≠ gb530)); clear BK530; clear HB; have BK530 := n0_; have HB := n1_; have BK531 := n2_; have GW531 := n3_; have GE531 := n4_; have NB530_531 := n5_; have NB531_530 := n6_; clear n0_ n1_ n2_ n3_ n4_ n5_ n6_; clear hb hbox hg; have hnb13 := NB530_531.out; have hnc13 := NB531_530.out; have hcz14_0 : w12.cell? ⟨gb530, 0, none⟩ = some (.int .i64 a0_0) := (blk_cell BK530.out 0).trans rfl; have hcz14_1 : w12.cell? ⟨gb530, 1, none⟩ = some (.int .i64 a0_1) := (blk_cell BK530.out 1).trans rfl; have hcz14_2 : w12.cell? ⟨gb530, 2, none⟩ = some (.float .f64 a0_2) := (blk_cell BK530.out 2).trans rfl; have hcz14_3 : w12.cell? ⟨gb530, 3, none⟩ = some (.string a0_3) := (blk_cell BK530.out 3).trans rfl; have hfz14_0 := blk_frozen BK530.out 0; have hfz14_1 := blk_frozen BK530.out 1; have hfz14_2 := blk_frozen BK530.out 2; have hfz14_3 := blk_frozen BK530.out 3; have hcz15_0 : w12.cell? ⟨gb531, 0, none⟩ = some (.int .i64 a1_0) := (blk_cell BK531.out 0).trans rfl; have hcz15_1 : w12.cell? ⟨gb531, 1, none⟩ = some (.int .i64 a1_1) := (blk_cell BK531.out 1).trans rfl; have hcz15_2 : w12.cell? ⟨gb531, 2, none⟩ = some (.float .f64 a1_2) := (blk_cell BK531.out 2).trans rfl; have hcz15_3 : w12.cell? ⟨gb531, 3, none⟩ = some (.string a1_3) := (blk_cell BK531.out 3).trans rfl; have hfz15_0 := blk_frozen BK531.out 0; have hfz15_1 := blk_frozen BK531.out 1; have hfz15_2 := blk_frozen BK531.out 2; have hfz15_3 := blk_frozen BK531.out 3))
        repeat (go_quiet (first | ((with_reducible refine gate_dst (N := 2) rfl ?_); refine box_event ?hg (N := 2) ?hd (cs := #[.int .i64 a0_0, .int .i64 a0_1, .float .f64 a0_2, .string a0_3]) (t := 50) ?hr ?_; (case hd => rfl); (case hg => rfl); (case hr => first | (go_simp; done) | (go_simp; rfl)); intro gb530 hg w11 hbox hb; have n0_ := Aside0.mk (below_step (by repeat (first | (with_reducible first | exact HB.out | apply below_alloc | apply pw_below_drewN | apply below_drew1) | exact HB.out)) hb); have n1_ := Aside0.mk (hbox); have n2_ := Aside0.mk ((by rw [hg]; exact (below_size (by repeat (first | (with_reducible first | exact HB.out | apply below_alloc | apply pw_below_drewN | apply below_drew1) | exact HB.out))) : w.heap.size ≤ gb530)); have n3_ := Aside0.mk ((by rw [hg]; exact (below_size (by repeat (first | (with_reducible first | exact HB.out | apply below_alloc | apply pw_below_drewN | apply below_drew1) | exact HB.out))) : w.heap.size ≤ gb530)); clear HB; have HB := n0_; have BK530 := n1_; have GW530 := n2_; have GE530 := n3_; clear n0_ n1_ n2_ n3_; clear hb hbox hg) | ((with_reducible refine gate_dst (N := 3) rfl ?_); refine box_event ?hg (N := 3) ?hd (cs := #[.int .i64 a1_0, .int .i64 a1_1, .float .f64 a1_2, .string a1_3]) (t := 50) ?hr ?_; (case hd => rfl); (case hg => rfl); (case hr => first | (go_simp; done) | (go_simp; rfl)); intro gb531 hg w12 hbox hb; have n0_ := Aside0.mk (blk_below (g := gb530) (o := .cells #[.int .i64 a0_0, .int .i64 a0_1, .float .f64 a0_2, .string a0_3] 50 (0, 0)) (by (with_reducible repeat (first | refine blk_drewN ?_ _ | refine blk_drew ?_ | refine blk_alloc ?_ _)); exact BK530.out) hb); have n1_ := Aside0.mk (below_step (by repeat (first | (with_reducible first | exact HB.out | apply below_alloc | apply pw_below_drewN | apply below_drew1 | refine below_set ?_ GE530.out) | exact HB.out)) hb); have n2_ := Aside0.mk (hbox); have n3_ := Aside0.mk ((by rw [hg]; exact (below_size (by repeat (first | (with_reducible first | exact HB.out | apply below_alloc | apply pw_below_drewN | apply below_drew1 | refine below_set ?_ GE530.out) | exact HB.out))) : w.heap.size ≤ gb531)); have n4_ := Aside0.mk ((by rw [hg]; exact (below_size (by repeat (first | (with_reducible first | exact HB.out | apply below_alloc | apply pw_below_drewN | apply below_drew1 | refine below_set ?_ GE530.out) | exact HB.out))) : w.heap.size ≤ gb531)); have n5_ := Aside0.mk ((by rw [hg]; exact Nat.ne_of_lt (blk_lt (g := gb530) (o := .cells #[.int .i64 a0_0, .int .i64 a0_1, .float .f64 a0_2, .string a0_3] 50 (0, 0)) (by (with_reducible repeat (first | refine blk_drewN ?_ _ | refine blk_drew ?_ | refine blk_alloc ?_ _)); exact BK530.out)) : gb530 ≠ gb531)); have n6_ := Aside0.mk ((by rw [hg]; exact Nat.ne_of_gt (blk_lt (g := gb530) (o := .cells #[.int .i64 a0_0, .int .i64 a0_1, .float .f64 a0_2, .string a0_3] 50 (0, 0)) (by (with_reducible repeat (first | refine blk_drewN ?_ _ | refine blk_drew ?_ | refine blk_alloc ?_ _)); exact BK530.out)) : gb531 ≠ gb530)); clear BK530; clear HB; have BK530 := n0_; have HB := n1_; have BK531 := n2_; have GW531 := n3_; have GE531 := n4_; have NB530_531 := n5_; have NB531_530 := n6_; clear n0_ n1_ n2_ n3_ n4_ n5_ n6_; clear hb hbox hg; have hnb13 := NB530_531.out; have hnc13 := NB531_530.out; have hcz14_0 : w12.cell? ⟨gb530, 0, none⟩ = some (.int .i64 a0_0) := (blk_cell BK530.out 0).trans rfl; have hcz14_1 : w12.cell? ⟨gb530, 1, none⟩ = some (.int .i64 a0_1) := (blk_cell BK530.out 1).trans rfl; have hcz14_2 : w12.cell? ⟨gb530, 2, none⟩ = some (.float .f64 a0_2) := (blk_cell BK530.out 2).trans rfl; have hcz14_3 : w12.cell? ⟨gb530, 3, none⟩ = some (.string a0_3) := (blk_cell BK530.out 3).trans rfl; have hfz14_0 := blk_frozen BK530.out 0; have hfz14_1 := blk_frozen BK530.out 1; have hfz14_2 := blk_frozen BK530.out 2; have hfz14_3 := blk_frozen BK530.out 3; have hcz15_0 : w12.cell? ⟨gb531, 0, none⟩ = some (.int .i64 a1_0) := (blk_cell BK531.out 0).trans rfl; have hcz15_1 : w12.cell? ⟨gb531, 1, none⟩ = some (.int .i64 a1_1) := (blk_cell BK531.out 1).trans rfl; have hcz15_2 : w12.cell? ⟨gb531, 2, none⟩ = some (.float .f64 a1_2) := (blk_cell BK531.out 2).trans rfl; have hcz15_3 : w12.cell? ⟨gb531, 3, none⟩ = some (.string a1_3) := (blk_cell BK531.out 3).trans rfl; have hfz15_0 := blk_frozen BK531.out 0; have hfz15_1 := blk_frozen BK531.out 1; have hfz15_2 := blk_frozen BK531.out 2; have hfz15_3 := blk_frozen BK531.out 3)); try go_wp2_with (first | ((with_reducible refine gate_dst (N := 2) rfl ?_); refine box_event ?hg (N := 2) ?hd (cs := #[.int .i64 a0_0, .int .i64 a0_1, .float .f64 a0_2, .string a0_3]) (t := 50) ?hr ?_; (case hd => rfl); (case hg => rfl); (case hr => first | (go_simp; done) | (go_simp; rfl)); intro gb530 hg w11 hbox hb; have n0_ := Aside0.mk (below_step (by repeat (first | (with_reducible first | exact HB.out | apply below_alloc | apply pw_below_drewN | apply below_drew1) | exact HB.out)) hb); have n1_ := Aside0.mk (hbox); have n2_ := Aside0.mk ((by rw [hg]; exact (below_size (by repeat (first | (with_reducible first | exact HB.out | apply below_alloc | apply pw_below_drewN | apply below_drew1) | exact HB.out))) : w.heap.size ≤ gb530)); have n3_ := Aside0.mk ((by rw [hg]; exact (below_size (by repeat (first | (with_reducible first | exact HB.out | apply below_alloc | apply pw_below_drewN | apply below_drew1) | exact HB.out))) : w.heap.size ≤ gb530)); clear HB; have HB := n0_; have BK530 := n1_; have GW530 := n2_; have GE530 := n3_; clear n0_ n1_ n2_ n3_; clear hb hbox hg) | ((with_reducible refine gate_dst (N := 3) rfl ?_); refine box_event ?hg (N := 3) ?hd (cs := #[.int .i64 a1_0, .int .i64 a1_1, .float .f64 a1_2, .string a1_3]) (t := 50) ?hr ?_; (case hd => rfl); (case hg => rfl); (case hr => first | (go_simp; done) | (go_simp; rfl)); intro gb531 hg w12 hbox hb; have n0_ := Aside0.mk (blk_below (g := gb530) (o := .cells #[.int .i64 a0_0, .int .i64 a0_1, .float .f64 a0_2, .string a0_3] 50 (0, 0)) (by (with_reducible repeat (first | refine blk_drewN ?_ _ | refine blk_drew ?_ | refine blk_alloc ?_ _)); exact BK530.out) hb); have n1_ := Aside0.mk (below_step (by repeat (first | (with_reducible first | exact HB.out | apply below_alloc | apply pw_below_drewN | apply below_drew1 | refine below_set ?_ GE530.out) | exact HB.out)) hb); have n2_ := Aside0.mk (hbox); have n3_ := Aside0.mk ((by rw [hg]; exact (below_size (by repeat (first | (with_reducible first | exact HB.out | apply below_alloc | apply pw_below_drewN | apply below_drew1 | refine below_set ?_ GE530.out) | exact HB.out))) : w.heap.size ≤ gb531)); have n4_ := Aside0.mk ((by rw [hg]; exact (below_size (by repeat (first | (with_reducible first | exact HB.out | apply below_alloc | apply pw_below_drewN | apply below_drew1 | refine below_set ?_ GE530.out) | exact HB.out))) : w.heap.size ≤ gb531)); have n5_ := Aside0.mk ((by rw [hg]; exact Nat.ne_of_lt (blk_lt (g := gb530) (o := .cells #[.int .i64 a0_0, .int .i64 a0_1, .float .f64 a0_2, .string a0_3] 50 (0, 0)) (by (with_reducible repeat (first | refine blk_drewN ?_ _ | refine blk_drew ?_ | refine blk_alloc ?_ _)); exact BK530.out)) : gb530 ≠ gb531)); have n6_ := Aside0.mk ((by rw [hg]; exact Nat.ne_of_gt (blk_lt (g := gb530) (o := .cells #[.int .i64 a0_0, .int .i64 a0_1, .float .f64 a0_2, .string a0_3] 50 (0, 0)) (by (with_reducible repeat (first | refine blk_drewN ?_ _ | refine blk_drew ?_ | refine blk_alloc ?_ _)); exact BK530.out)) : gb531 ≠ gb530)); clear BK530; clear HB; have BK530 := n0_; have HB := n1_; have BK531 := n2_; have GW531 := n3_; have GE531 := n4_; have NB530_531 := n5_; have NB531_530 := n6_; clear n0_ n1_ n2_ n3_ n4_ n5_ n6_; clear hb hbox hg; have hnb13 := NB530_531.out; have hnc13 := NB531_530.out; have hcz14_0 : w12.cell? ⟨gb530, 0, none⟩ = some (.int .i64 a0_0) := (blk_cell BK530.out 0).trans rfl; have hcz14_1 : w12.cell? ⟨gb530, 1, none⟩ = some (.int .i64 a0_1) := (blk_cell BK530.out 1).trans rfl; have hcz14_2 : w12.cell? ⟨gb530, 2, none⟩ = some (.float .f64 a0_2) := (blk_cell BK530.out 2).trans rfl; have hcz14_3 : w12.cell? ⟨gb530, 3, none⟩ = some (.string a0_3) := (blk_cell BK530.out 3).trans rfl; have hfz14_0 := blk_frozen BK530.out 0; have hfz14_1 := blk_frozen BK530.out 1; have hfz14_2 := blk_frozen BK530.out 2; have hfz14_3 := blk_frozen BK530.out 3; have hcz15_0 : w12.cell? ⟨gb531, 0, none⟩ = some (.int .i64 a1_0) := (blk_cell BK531.out 0).trans rfl; have hcz15_1 : w12.cell? ⟨gb531, 1, none⟩ = some (.int .i64 a1_1) := (blk_cell BK531.out 1).trans rfl; have hcz15_2 : w12.cell? ⟨gb531, 2, none⟩ = some (.float .f64 a1_2) := (blk_cell BK531.out 2).trans rfl; have hcz15_3 : w12.cell? ⟨gb531, 3, none⟩ = some (.string a1_3) := (blk_cell BK531.out 3).trans rfl; have hfz15_0 := blk_frozen BK531.out 0; have hfz15_1 := blk_frozen BK531.out 1; have hfz15_2 := blk_frozen BK531.out 2; have hfz15_3 := blk_frozen BK531.out 3)))
        go_ret
        exact ⟨by first | rfl | (simp [errW_none, errW_some] <;> rfl) | (simp [*, errW_none, errW_some] <;> rfl), by repeat (first | (with_reducible first | exact HB.out | apply below_alloc | apply pw_below_drewN | apply below_drew1 | refine below_set ?_ GE530.out | refine below_set ?_ GE531.out) | exact HB.out)⟩
    · rw [if_neg c4] at H
      have c4b0 : (a0_1 == a1_1) = false := beq_eq_false_iff_ne.mpr c4
      have c4b1 : (a0_1 != a1_1) = true := bne_iff_ne.mpr c4
      obtain rfl := Option.some.inj H
      go_enter Tryd.func46, Tryd.ntmps46
      go_wp2_with (first | ((with_reducible refine gate_dst (N := 2) rfl ?_); refine box_event ?hg (N := 2) ?hd (cs := #[.int .i64 a0_0, .int .i64 a0_1, .float .f64 a0_2, .string a0_3]) (t := 50) ?hr ?_; (case hd => rfl); (case hg => rfl); (case hr => first | (go_simp; done) | (go_simp; rfl)); intro gb530 hg w16 hbox hb; have n0_ := Aside0.mk (below_step (by repeat (first | (with_reducible first | exact HB.out | apply below_alloc | apply pw_below_drewN | apply below_drew1) | exact HB.out)) hb); have n1_ := Aside0.mk (hbox); have n2_ := Aside0.mk ((by rw [hg]; exact (below_size (by repeat (first | (with_reducible first | exact HB.out | apply below_alloc | apply pw_below_drewN | apply below_drew1) | exact HB.out))) : w.heap.size ≤ gb530)); have n3_ := Aside0.mk ((by rw [hg]; exact (below_size (by repeat (first | (with_reducible first | exact HB.out | apply below_alloc | apply pw_below_drewN | apply below_drew1) | exact HB.out))) : w.heap.size ≤ gb530)); clear HB; have HB := n0_; have BK530 := n1_; have GW530 := n2_; have GE530 := n3_; clear n0_ n1_ n2_ n3_; clear hb hbox hg) | ((with_reducible refine gate_dst (N := 3) rfl ?_); refine box_event ?hg (N := 3) ?hd (cs := #[.int .i64 a1_0, .int .i64 a1_1, .float .f64 a1_2, .string a1_3]) (t := 50) ?hr ?_; (case hd => rfl); (case hg => rfl); (case hr => first | (go_simp; done) | (go_simp; rfl)); intro gb531 hg w17 hbox hb; have n0_ := Aside0.mk (blk_below (g := gb530) (o := .cells #[.int .i64 a0_0, .int .i64 a0_1, .float .f64 a0_2, .string a0_3] 50 (0, 0)) (by (with_reducible repeat (first | refine blk_drewN ?_ _ | refine blk_drew ?_ | refine blk_alloc ?_ _)); exact BK530.out) hb); have n1_ := Aside0.mk (below_step (by repeat (first | (with_reducible first | exact HB.out | apply below_alloc | apply pw_below_drewN | apply below_drew1 | refine below_set ?_ GE530.out) | exact HB.out)) hb); have n2_ := Aside0.mk (hbox); have n3_ := Aside0.mk ((by rw [hg]; exact (below_size (by repeat (first | (with_reducible first | exact HB.out | apply below_alloc | apply pw_below_drewN | apply below_drew1 | refine below_set ?_ GE530.out) | exact HB.out))) : w.heap.size ≤ gb531)); have n4_ := Aside0.mk ((by rw [hg]; exact (below_size (by repeat (first | (with_reducible first | exact HB.out | apply below_alloc | apply pw_below_drewN | apply below_drew1 | refine below_set ?_ GE530.out) | exact HB.out))) : w.heap.size ≤ gb531)); have n5_ := Aside0.mk ((by rw [hg]; exact Nat.ne_of_lt (blk_lt (g := gb530) (o := .cells #[.int .i64 a0_0, .int .i64 a0_1, .float .f64 a0_2, .string a0_3] 50 (0, 0)) (by (with_reducible repeat (first | refine blk_drewN ?_ _ | refine blk_drew ?_ | refine blk_alloc ?_ _)); exact BK530.out)) : gb530 ≠ gb531)); have n6_ := Aside0.mk ((by rw [hg]; exact Nat.ne_of_gt (blk_lt (g := gb530) (o := .cells #[.int .i64 a0_0, .int .i64 a0_1, .float .f64 a0_2, .string a0_3] 50 (0, 0)) (by (with_reducible repeat (first | refine blk_drewN ?_ _ | refine blk_drew ?_ | refine blk_alloc ?_ _)); exact BK530.out)) : gb531 ≠ gb530)); clear BK530; clear HB; have BK530 := n0_; have HB := n1_; have BK531 := n2_; have GW531 := n3_; have GE531 := n4_; have NB530_531 := n5_; have NB531_530 := n6_; clear n0_ n1_ n2_ n3_ n4_ n5_ n6_; clear hb hbox hg; have hnb18 := NB530_531.out; have hnc18 := NB531_530.out; have hcz19_0 : w17.cell? ⟨gb530, 0, none⟩ = some (.int .i64 a0_0) := (blk_cell BK530.out 0).trans rfl; have hcz19_1 : w17.cell? ⟨gb530, 1, none⟩ = some (.int .i64 a0_1) := (blk_cell BK530.out 1).trans rfl; have hcz19_2 : w17.cell? ⟨gb530, 2, none⟩ = some (.float .f64 a0_2) := (blk_cell BK530.out 2).trans rfl; have hcz19_3 : w17.cell? ⟨gb530, 3, none⟩ = some (.string a0_3) := (blk_cell BK530.out 3).trans rfl; have hfz19_0 := blk_frozen BK530.out 0; have hfz19_1 := blk_frozen BK530.out 1; have hfz19_2 := blk_frozen BK530.out 2; have hfz19_3 := blk_frozen BK530.out 3; have hcz20_0 : w17.cell? ⟨gb531, 0, none⟩ = some (.int .i64 a1_0) := (blk_cell BK531.out 0).trans rfl; have hcz20_1 : w17.cell? ⟨gb531, 1, none⟩ = some (.int .i64 a1_1) := (blk_cell BK531.out 1).trans rfl; have hcz20_2 : w17.cell? ⟨gb531, 2, none⟩ = some (.float .f64 a1_2) := (blk_cell BK531.out 2).trans rfl; have hcz20_3 : w17.cell? ⟨gb531, 3, none⟩ = some (.string a1_3) := (blk_cell BK531.out 3).trans rfl; have hfz20_0 := blk_frozen BK531.out 0; have hfz20_1 := blk_frozen BK531.out 1; have hfz20_2 := blk_frozen BK531.out 2; have hfz20_3 := blk_frozen BK531.out 3))
      repeat (go_quiet (first | ((with_reducible refine gate_dst (N := 2) rfl ?_); refine box_event ?hg (N := 2) ?hd (cs := #[.int .i64 a0_0, .int .i64 a0_1, .float .f64 a0_2, .string a0_3]) (t := 50) ?hr ?_; (case hd => rfl); (case hg => rfl); (case hr => first | (go_simp; done) | (go_simp; rfl)); intro gb530 hg w16 hbox hb; have n0_ := Aside0.mk (below_step (by repeat (first | (with_reducible first | exact HB.out | apply below_alloc | apply pw_below_drewN | apply below_drew1) | exact HB.out)) hb); have n1_ := Aside0.mk (hbox); have n2_ := Aside0.mk ((by rw [hg]; exact (below_size (by repeat (first | (with_reducible first | exact HB.out | apply below_alloc | apply pw_below_drewN | apply below_drew1) | exact HB.out))) : w.heap.size ≤ gb530)); have n3_ := Aside0.mk ((by rw [hg]; exact (below_size (by repeat (first | (with_reducible first | exact HB.out | apply below_alloc | apply pw_below_drewN | apply below_drew1) | exact HB.out))) : w.heap.size ≤ gb530)); clear HB; have HB := n0_; have BK530 := n1_; have GW530 := n2_; have GE530 := n3_; clear n0_ n1_ n2_ n3_; clear hb hbox hg) | ((with_reducible refine gate_dst (N := 3) rfl ?_); refine box_event ?hg (N := 3) ?hd (cs := #[.int .i64 a1_0, .int .i64 a1_1, .float .f64 a1_2, .string a1_3]) (t := 50) ?hr ?_; (case hd => rfl); (case hg => rfl); (case hr => first | (go_simp; done) | (go_simp; rfl)); intro gb531 hg w17 hbox hb; have n0_ := Aside0.mk (blk_below (g := gb530) (o := .cells #[.int .i64 a0_0, .int .i64 a0_1, .float .f64 a0_2, .string a0_3] 50 (0, 0)) (by (with_reducible repeat (first | refine blk_drewN ?_ _ | refine blk_drew ?_ | refine blk_alloc ?_ _)); exact BK530.out) hb); have n1_ := Aside0.mk (below_step (by repeat (first | (with_reducible first | exact HB.out | apply below_alloc | apply pw_below_drewN | apply below_drew1 | refine below_set ?_ GE530.out) | exact HB.out)) hb); have n2_ := Aside0.mk (hbox); have n3_ := Aside0.mk ((by rw [hg]; exact (below_size (by repeat (first | (with_reducible first | exact HB.out | apply below_alloc | apply pw_below_drewN | apply below_drew1 | refine below_set ?_ GE530.out) | exact HB.out))) : w.heap.size ≤ gb531)); have n4_ := Aside0.mk ((by rw [hg]; exact (below_size (by repeat (first | (with_reducible first | exact HB.out | apply below_alloc | apply pw_below_drewN | apply below_drew1 | refine below_set ?_ GE530.out) | exact HB.out))) : w.heap.size ≤ gb531)); have n5_ := Aside0.mk ((by rw [hg]; exact Nat.ne_of_lt (blk_lt (g := gb530) (o := .cells #[.int .i64 a0_0, .int .i64 a0_1, .float .f64 a0_2, .string a0_3] 50 (0, 0)) (by (with_reducible repeat (first | refine blk_drewN ?_ _ | refine blk_drew ?_ | refine blk_alloc ?_ _)); exact BK530.out)) : gb530 ≠ gb531)); have n6_ := Aside0.mk ((by rw [hg]; exact Nat.ne_of_gt (blk_lt (g := gb530) (o := .cells #[.int .i64 a0_0, .int .i64 a0_1, .float .f64 a0_2, .string a0_3] 50 (0, 0)) (by (with_reducible repeat (first | refine blk_drewN ?_ _ | refine blk_drew ?_ | refine blk_alloc ?_ _)); exact BK530.out)) : gb531 ≠ gb530)); clear BK530; clear HB; have BK530 := n0_; have HB := n1_; have BK531 := n2_; have GW531 := n3_; have GE531 := n4_; have NB530_531 := n5_; have NB531_530 := n6_; clear n0_ n1_ n2_ n3_ n4_ n5_ n6_; clear hb hbox hg; have hnb18 := NB530_531.out; have hnc18 := NB531_530.out; have hcz19_0 : w17.cell? ⟨gb530, 0, none⟩ = some (.int .i64 a0_0) := (blk_cell BK530.out 0).trans rfl; have hcz19_1 : w17.cell? ⟨gb530, 1, none⟩ = some (.int .i64 a0_1) := (blk_cell BK530.out 1).trans rfl; have hcz19_2 : w17.cell? ⟨gb530, 2, none⟩ = some (.float .f64 a0_2) := (blk_cell BK530.out 2).trans rfl; have hcz19_3 : w17.cell? ⟨gb530, 3, none⟩ = some (.string a0_3) := (blk_cell BK530.out 3).trans rfl; have hfz19_0 := blk_frozen BK530.out 0; have hfz19_1 := blk_frozen BK530.out 1; have hfz19_2 := blk_frozen BK530.out 2; have hfz19_3 := blk_frozen BK530.out 3; have hcz20_0 : w17.cell? ⟨gb531, 0, none⟩ = some (.int .i64 a1_0) := (blk_cell BK531.out 0).trans rfl; have hcz20_1 : w17.cell? ⟨gb531, 1, none⟩ = some (.int .i64 a1_1) := (blk_cell BK531.out 1).trans rfl; have hcz20_2 : w17.cell? ⟨gb531, 2, none⟩ = some (.float .f64 a1_2) := (blk_cell BK531.out 2).trans rfl; have hcz20_3 : w17.cell? ⟨gb531, 3, none⟩ = some (.string a1_3) := (blk_cell BK531.out 3).trans rfl; have hfz20_0 := blk_frozen BK531.out 0; have hfz20_1 := blk_frozen BK531.out 1; have hfz20_2 := blk_frozen BK531.out 2; have hfz20_3 := blk_frozen BK531.out 3)); try go_wp2_with (first | ((with_reducible refine gate_dst (N := 2) rfl ?_); refine box_event ?hg (N := 2) ?hd (cs := #[.int .i64 a0_0, .int .i64 a0_1, .float .f64 a0_2, .string a0_3]) (t := 50) ?hr ?_; (case hd => rfl); (case hg => rfl); (case hr => first | (go_simp; done) | (go_simp; rfl)); intro gb530 hg w16 hbox hb; have n0_ := Aside0.mk (below_step (by repeat (first | (with_reducible first | exact HB.out | apply below_alloc | apply pw_below_drewN | apply below_drew1) | exact HB.out)) hb); have n1_ := Aside0.mk (hbox); have n2_ := Aside0.mk ((by rw [hg]; exact (below_size (by repeat (first | (with_reducible first | exact HB.out | apply below_alloc | apply pw_below_drewN | apply below_drew1) | exact HB.out))) : w.heap.size ≤ gb530)); have n3_ := Aside0.mk ((by rw [hg]; exact (below_size (by repeat (first | (with_reducible first | exact HB.out | apply below_alloc | apply pw_below_drewN | apply below_drew1) | exact HB.out))) : w.heap.size ≤ gb530)); clear HB; have HB := n0_; have BK530 := n1_; have GW530 := n2_; have GE530 := n3_; clear n0_ n1_ n2_ n3_; clear hb hbox hg) | ((with_reducible refine gate_dst (N := 3) rfl ?_); refine box_event ?hg (N := 3) ?hd (cs := #[.int .i64 a1_0, .int .i64 a1_1, .float .f64 a1_2, .string a1_3]) (t := 50) ?hr ?_; (case hd => rfl); (case hg => rfl); (case hr => first | (go_simp; done) | (go_simp; rfl)); intro gb531 hg w17 hbox hb; have n0_ := Aside0.mk (blk_below (g := gb530) (o := .cells #[.int .i64 a0_0, .int .i64 a0_1, .float .f64 a0_2, .string a0_3] 50 (0, 0)) (by (with_reducible repeat (first | refine blk_drewN ?_ _ | refine blk_drew ?_ | refine blk_alloc ?_ _)); exact BK530.out) hb); have n1_ := Aside0.mk (below_step (by repeat (first | (with_reducible first | exact HB.out | apply below_alloc | apply pw_below_drewN | apply below_drew1 | refine below_set ?_ GE530.out) | exact HB.out)) hb); have n2_ := Aside0.mk (hbox); have n3_ := Aside0.mk ((by rw [hg]; exact (below_size (by repeat (first | (with_reducible first | exact HB.out | apply below_alloc | apply pw_below_drewN | apply below_drew1 | refine below_set ?_ GE530.out) | exact HB.out))) : w.heap.size ≤ gb531)); have n4_ := Aside0.mk ((by rw [hg]; exact (below_size (by repeat (first | (with_reducible first | exact HB.out | apply below_alloc | apply pw_below_drewN | apply below_drew1 | refine below_set ?_ GE530.out) | exact HB.out))) : w.heap.size ≤ gb531)); have n5_ := Aside0.mk ((by rw [hg]; exact Nat.ne_of_lt (blk_lt (g := gb530) (o := .cells #[.int .i64 a0_0, .int .i64 a0_1, .float .f64 a0_2, .string a0_3] 50 (0, 0)) (by (with_reducible repeat (first | refine blk_drewN ?_ _ | refine blk_drew ?_ | refine blk_alloc ?_ _)); exact BK530.out)) : gb530 ≠ gb531)); have n6_ := Aside0.mk ((by rw [hg]; exact Nat.ne_of_gt (blk_lt (g := gb530) (o := .cells #[.int .i64 a0_0, .int .i64 a0_1, .float .f64 a0_2, .string a0_3] 50 (0, 0)) (by (with_reducible repeat (first | refine blk_drewN ?_ _ | refine blk_drew ?_ | refine blk_alloc ?_ _)); exact BK530.out)) : gb531 ≠ gb530)); clear BK530; clear HB; have BK530 := n0_; have HB := n1_; have BK531 := n2_; have GW531 := n3_; have GE531 := n4_; have NB530_531 := n5_; have NB531_530 := n6_; clear n0_ n1_ n2_ n3_ n4_ n5_ n6_; clear hb hbox hg; have hnb18 := NB530_531.out; have hnc18 := NB531_530.out; have hcz19_0 : w17.cell? ⟨gb530, 0, none⟩ = some (.int .i64 a0_0) := (blk_cell BK530.out 0).trans rfl; have hcz19_1 : w17.cell? ⟨gb530, 1, none⟩ = some (.int .i64 a0_1) := (blk_cell BK530.out 1).trans rfl; have hcz19_2 : w17.cell? ⟨gb530, 2, none⟩ = some (.float .f64 a0_2) := (blk_cell BK530.out 2).trans rfl; have hcz19_3 : w17.cell? ⟨gb530, 3, none⟩ = some (.string a0_3) := (blk_cell BK530.out 3).trans rfl; have hfz19_0 := blk_frozen BK530.out 0; have hfz19_1 := blk_frozen BK530.out 1; have hfz19_2 := blk_frozen BK530.out 2; have hfz19_3 := blk_frozen BK530.out 3; have hcz20_0 : w17.cell? ⟨gb531, 0, none⟩ = some (.int .i64 a1_0) := (blk_cell BK531.out 0).trans rfl; have hcz20_1 : w17.cell? ⟨gb531, 1, none⟩ = some (.int .i64 a1_1) := (blk_cell BK531.out 1).trans rfl; have hcz20_2 : w17.cell? ⟨gb531, 2, none⟩ = some (.float .f64 a1_2) := (blk_cell BK531.out 2).trans rfl; have hcz20_3 : w17.cell? ⟨gb531, 3, none⟩ = some (.string a1_3) := (blk_cell BK531.out 3).trans rfl; have hfz20_0 := blk_frozen BK531.out 0; have hfz20_1 := blk_frozen BK531.out 1; have hfz20_2 := blk_frozen BK531.out 2; have hfz20_3 := blk_frozen BK531.out 3)))
      go_ret
      exact ⟨by first | rfl | (simp [errW_none, errW_some] <;> rfl) | (simp [*, errW_none, errW_some] <;> rfl), by repeat (first | (with_reducible first | exact HB.out | apply below_alloc | apply pw_below_drewN | apply below_drew1 | refine below_set ?_ GE530.out | refine below_set ?_ GE531.out) | exact HB.out)⟩
  · rw [if_neg c3] at H
    have c3b0 : (a0_0 == a1_0) = false := beq_eq_false_iff_ne.mpr c3
    have c3b1 : (a0_0 != a1_0) = true := bne_iff_ne.mpr c3
    obtain rfl := Option.some.inj H
    go_enter Tryd.func46, Tryd.ntmps46
    go_wp2_with (first | ((with_reducible refine gate_dst (N := 2) rfl ?_); refine box_event ?hg (N := 2) ?hd (cs := #[.int .i64 a0_0, .int .i64 a0_1, .float .f64 a0_2, .string a0_3]) (t := 50) ?hr ?_; (case hd => rfl); (case hg => rfl); (case hr => first | (go_simp; done) | (go_simp; rfl)); intro gb530 hg w21 hbox hb; have n0_ := Aside0.mk (below_step (by repeat (first | (with_reducible first | exact HB.out | apply below_alloc | apply pw_below_drewN | apply below_drew1) | exact HB.out)) hb); have n1_ := Aside0.mk (hbox); have n2_ := Aside0.mk ((by rw [hg]; exact (below_size (by repeat (first | (with_reducible first | exact HB.out | apply below_alloc | apply pw_below_drewN | apply below_drew1) | exact HB.out))) : w.heap.size ≤ gb530)); have n3_ := Aside0.mk ((by rw [hg]; exact (below_size (by repeat (first | (with_reducible first | exact HB.out | apply below_alloc | apply pw_below_drewN | apply below_drew1) | exact HB.out))) : w.heap.size ≤ gb530)); clear HB; have HB := n0_; have BK530 := n1_; have GW530 := n2_; have GE530 := n3_; clear n0_ n1_ n2_ n3_; clear hb hbox hg) | ((with_reducible refine gate_dst (N := 3) rfl ?_); refine box_event ?hg (N := 3) ?hd (cs := #[.int .i64 a1_0, .int .i64 a1_1, .float .f64 a1_2, .string a1_3]) (t := 50) ?hr ?_; (case hd => rfl); (case hg => rfl); (case hr => first | (go_simp; done) | (go_simp; rfl)); intro gb531 hg w22 hbox hb; have n0_ := Aside0.mk (blk_below (g := gb530) (o := .cells #[.int .i64 a0_0, .int .i64 a0_1, .float .f64 a0_2, .string a0_3] 50 (0, 0)) (by (with_reducible repeat (first | refine blk_drewN ?_ _ | refine blk_drew ?_ | refine blk_alloc ?_ _)); exact BK530.out) hb); have n1_ := Aside0.mk (below_step (by repeat (first | (with_reducible first | exact HB.out | apply below_alloc | apply pw_below_drewN | apply below_drew1 | refine below_set ?_ GE530.out) | exact HB.out)) hb); have n2_ := Aside0.mk (hbox); have n3_ := Aside0.mk ((by rw [hg]; exact (below_size (by repeat (first | (with_reducible first | exact HB.out | apply below_alloc | apply pw_below_drewN | apply below_drew1 | refine below_set ?_ GE530.out) | exact HB.out))) : w.heap.size ≤ gb531)); have n4_ := Aside0.mk ((by rw [hg]; exact (below_size (by repeat (first | (with_reducible first | exact HB.out | apply below_alloc | apply pw_below_drewN | apply below_drew1 | refine below_set ?_ GE530.out) | exact HB.out))) : w.heap.size ≤ gb531)); have n5_ := Aside0.mk ((by rw [hg]; exact Nat.ne_of_lt (blk_lt (g := gb530) (o := .cells #[.int .i64 a0_0, .int .i64 a0_1, .float .f64 a0_2, .string a0_3] 50 (0, 0)) (by (with_reducible repeat (first | refine blk_drewN ?_ _ | refine blk_drew ?_ | refine blk_alloc ?_ _)); exact BK530.out)) : gb530 ≠ gb531)); have n6_ := Aside0.mk ((by rw [hg]; exact Nat.ne_of_gt (blk_lt (g := gb530) (o := .cells #[.int .i64 a0_0, .int .i64 a0_1, .float .f64 a0_2, .string a0_3] 50 (0, 0)) (by (with_reducible repeat (first | refine blk_drewN ?_ _ | refine blk_drew ?_ | refine blk_alloc ?_ _)); exact BK530.out)) : gb531 ≠ gb530)); clear BK530; clear HB; have BK530 := n0_; have HB := n1_; have BK531 := n2_; have GW531 := n3_; have GE531 := n4_; have NB530_531 := n5_; have NB531_530 := n6_; clear n0_ n1_ n2_ n3_ n4_ n5_ n6_; clear hb hbox hg; have hnb23 := NB530_531.out; have hnc23 := NB531_530.out; have hcz24_0 : w22.cell? ⟨gb530, 0, none⟩ = some (.int .i64 a0_0) := (blk_cell BK530.out 0).trans rfl; have hcz24_1 : w22.cell? ⟨gb530, 1, none⟩ = some (.int .i64 a0_1) := (blk_cell BK530.out 1).trans rfl; have hcz24_2 : w22.cell? ⟨gb530, 2, none⟩ = some (.float .f64 a0_2) := (blk_cell BK530.out 2).trans rfl; have hcz24_3 : w22.cell? ⟨gb530, 3, none⟩ = some (.string a0_3) := (blk_cell BK530.out 3).trans rfl; have hfz24_0 := blk_frozen BK530.out 0; have hfz24_1 := blk_frozen BK530.out 1; have hfz24_2 := blk_frozen BK530.out 2; have hfz24_3 := blk_frozen BK530.out 3; have hcz25_0 : w22.cell? ⟨gb531, 0, none⟩ = some (.int .i64 a1_0) := (blk_cell BK531.out 0).trans rfl; have hcz25_1 : w22.cell? ⟨gb531, 1, none⟩ = some (.int .i64 a1_1) := (blk_cell BK531.out 1).trans rfl; have hcz25_2 : w22.cell? ⟨gb531, 2, none⟩ = some (.float .f64 a1_2) := (blk_cell BK531.out 2).trans rfl; have hcz25_3 : w22.cell? ⟨gb531, 3, none⟩ = some (.string a1_3) := (blk_cell BK531.out 3).trans rfl; have hfz25_0 := blk_frozen BK531.out 0; have hfz25_1 := blk_frozen BK531.out 1; have hfz25_2 := blk_frozen BK531.out 2; have hfz25_3 := blk_frozen BK531.out 3))
    repeat (go_quiet (first | ((with_reducible refine gate_dst (N := 2) rfl ?_); refine box_event ?hg (N := 2) ?hd (cs := #[.int .i64 a0_0, .int .i64 a0_1, .float .f64 a0_2, .string a0_3]) (t := 50) ?hr ?_; (case hd => rfl); (case hg => rfl); (case hr => first | (go_simp; done) | (go_simp; rfl)); intro gb530 hg w21 hbox hb; have n0_ := Aside0.mk (below_step (by repeat (first | (with_reducible first | exact HB.out | apply below_alloc | apply pw_below_drewN | apply below_drew1) | exact HB.out)) hb); have n1_ := Aside0.mk (hbox); have n2_ := Aside0.mk ((by rw [hg]; exact (below_size (by repeat (first | (with_reducible first | exact HB.out | apply below_alloc | apply pw_below_drewN | apply below_drew1) | exact HB.out))) : w.heap.size ≤ gb530)); have n3_ := Aside0.mk ((by rw [hg]; exact (below_size (by repeat (first | (with_reducible first | exact HB.out | apply below_alloc | apply pw_below_drewN | apply below_drew1) | exact HB.out))) : w.heap.size ≤ gb530)); clear HB; have HB := n0_; have BK530 := n1_; have GW530 := n2_; have GE530 := n3_; clear n0_ n1_ n2_ n3_; clear hb hbox hg) | ((with_reducible refine gate_dst (N := 3) rfl ?_); refine box_event ?hg (N := 3) ?hd (cs := #[.int .i64 a1_0, .int .i64 a1_1, .float .f64 a1_2, .string a1_3]) (t := 50) ?hr ?_; (case hd => rfl); (case hg => rfl); (case hr => first | (go_simp; done) | (go_simp; rfl)); intro gb531 hg w22 hbox hb; have n0_ := Aside0.mk (blk_below (g := gb530) (o := .cells #[.int .i64 a0_0, .int .i64 a0_1, .float .f64 a0_2, .string a0_3] 50 (0, 0)) (by (with_reducible repeat (first | refine blk_drewN ?_ _ | refine blk_drew ?_ | refine blk_alloc ?_ _)); exact BK530.out) hb); have n1_ := Aside0.mk (below_step (by repeat (first | (with_reducible first | exact HB.out | apply below_alloc | apply pw_below_drewN | apply below_drew1 | refine below_set ?_ GE530.out) | exact HB.out)) hb); have n2_ := Aside0.mk (hbox); have n3_ := Aside0.mk ((by rw [hg]; exact (below_size (by repeat (first | (with_reducible first | exact HB.out | apply below_alloc | apply pw_below_drewN | apply below_drew1 | refine below_set ?_ GE530.out) | exact HB.out))) : w.heap.size ≤ gb531)); have n4_ := Aside0.mk ((by rw [hg]; exact (below_size (by repeat (first | (with_reducible first | exact HB.out | apply below_alloc | apply pw_below_drewN | apply below_drew1 | refine below_set ?_ GE530.out) | exact HB.out))) : w.heap.size ≤ gb531)); have n5_ := Aside0.mk ((by rw [hg]; exact Nat.ne_of_lt (blk_lt (g := gb530) (o := .cells #[.int .i64 a0_0, .int .i64 a0_1, .float .f64 a0_2, .string a0_3] 50 (0, 0)) (by (with_reducible repeat (first | refine blk_drewN ?_ _ | refine blk_drew ?_ | refine blk_alloc ?_ _)); exact BK530.out)) : gb530 ≠ gb531)); have n6_ := Aside0.mk ((by rw [hg]; exact Nat.ne_of_gt (blk_lt (g := gb530) (o := .cells #[.int .i64 a0_0, .int .i64 a0_1, .float .f64 a0_2, .string a0_3] 50 (0, 0)) (by (with_reducible repeat (first | refine blk_drewN ?_ _ | refine blk_drew ?_ | refine blk_alloc ?_ _)); exact BK530.out)) : gb531 ≠ gb530)); clear BK530; clear HB; have BK530 := n0_; have HB := n1_; have BK531 := n2_; have GW531 := n3_; have GE531 := n4_; have NB530_531 := n5_; have NB531_530 := n6_; clear n0_ n1_ n2_ n3_ n4_ n5_ n6_; clear hb hbox hg; have hnb23 := NB530_531.out; have hnc23 := NB531_530.out; have hcz24_0 : w22.cell? ⟨gb530, 0, none⟩ = some (.int .i64 a0_0) := (blk_cell BK530.out 0).trans rfl; have hcz24_1 : w22.cell? ⟨gb530, 1, none⟩ = some (.int .i64 a0_1) := (blk_cell BK530.out 1).trans rfl; have hcz24_2 : w22.cell? ⟨gb530, 2, none⟩ = some (.float .f64 a0_2) := (blk_cell BK530.out 2).trans rfl; have hcz24_3 : w22.cell? ⟨gb530, 3, none⟩ = some (.string a0_3) := (blk_cell BK530.out 3).trans rfl; have hfz24_0 := blk_frozen BK530.out 0; have hfz24_1 := blk_frozen BK530.out 1; have hfz24_2 := blk_frozen BK530.out 2; have hfz24_3 := blk_frozen BK530.out 3; have hcz25_0 : w22.cell? ⟨gb531, 0, none⟩ = some (.int .i64 a1_0) := (blk_cell BK531.out 0).trans rfl; have hcz25_1 : w22.cell? ⟨gb531, 1, none⟩ = some (.int .i64 a1_1) := (blk_cell BK531.out 1).trans rfl; have hcz25_2 : w22.cell? ⟨gb531, 2, none⟩ = some (.float .f64 a1_2) := (blk_cell BK531.out 2).trans rfl; have hcz25_3 : w22.cell? ⟨gb531, 3, none⟩ = some (.string a1_3) := (blk_cell BK531.out 3).trans rfl; have hfz25_0 := blk_frozen BK531.out 0; have hfz25_1 := blk_frozen BK531.out 1; have hfz25_2 := blk_frozen BK531.out 2; have hfz25_3 := blk_frozen BK531.out 3)); try go_wp2_with (first | ((with_reducible refine gate_dst (N := 2) rfl ?_); refine box_event ?hg (N := 2) ?hd (cs := #[.int .i64 a0_0, .int .i64 a0_1, .float .f64 a0_2, .string a0_3]) (t := 50) ?hr ?_; (case hd => rfl); (case hg => rfl); (case hr => first | (go_simp; done) | (go_simp; rfl)); intro gb530 hg w21 hbox hb; have n0_ := Aside0.mk (below_step (by repeat (first | (with_reducible first | exact HB.out | apply below_alloc | apply pw_below_drewN | apply below_drew1) | exact HB.out)) hb); have n1_ := Aside0.mk (hbox); have n2_ := Aside0.mk ((by rw [hg]; exact (below_size (by repeat (first | (with_reducible first | exact HB.out | apply below_alloc | apply pw_below_drewN | apply below_drew1) | exact HB.out))) : w.heap.size ≤ gb530)); have n3_ := Aside0.mk ((by rw [hg]; exact (below_size (by repeat (first | (with_reducible first | exact HB.out | apply below_alloc | apply pw_below_drewN | apply below_drew1) | exact HB.out))) : w.heap.size ≤ gb530)); clear HB; have HB := n0_; have BK530 := n1_; have GW530 := n2_; have GE530 := n3_; clear n0_ n1_ n2_ n3_; clear hb hbox hg) | ((with_reducible refine gate_dst (N := 3) rfl ?_); refine box_event ?hg (N := 3) ?hd (cs := #[.int .i64 a1_0, .int .i64 a1_1, .float .f64 a1_2, .string a1_3]) (t := 50) ?hr ?_; (case hd => rfl); (case hg => rfl); (case hr => first | (go_simp; done) | (go_simp; rfl)); intro gb531 hg w22 hbox hb; have n0_ := Aside0.mk (blk_below (g := gb530) (o := .cells #[.int .i64 a0_0, .int .i64 a0_1, .float .f64 a0_2, .string a0_3] 50 (0, 0)) (by (with_reducible repeat (first | refine blk_drewN ?_ _ | refine blk_drew ?_ | refine blk_alloc ?_ _)); exact BK530.out) hb); have n1_ := Aside0.mk (below_step (by repeat (first | (with_reducible first | exact HB.out | apply below_alloc | apply pw_below_drewN | apply below_drew1 | refine below_set ?_ GE530.out) | exact HB.out)) hb); have n2_ := Aside0.mk (hbox); have n3_ := Aside0.mk ((by rw [hg]; exact (below_size (by repeat (first | (with_reducible first | exact HB.out | apply below_alloc | apply pw_below_drewN | apply below_drew1 | refine below_set ?_ GE530.out) | exact HB.out))) : w.heap.size ≤ gb531)); have n4_ := Aside0.mk ((by rw [hg]; exact (below_size (by repeat (first | (with_reducible first | exact HB.out | apply below_alloc | apply pw_below_drewN | apply below_drew1 | refine below_set ?_ GE530.out) | exact HB.out))) : w.heap.size ≤ gb531)); have n5_ := Aside0.mk ((by rw [hg]; exact Nat.ne_of_lt (blk_lt (g := gb530) (o := .cells #[.int .i64 a0_0, .int .i64 a0_1, .float .f64 a0_2, .string a0_3] 50 (0, 0)) (by (with_reducible repeat (first | refine blk_drewN ?_ _ | refine blk_drew ?_ | refine blk_alloc ?_ _)); exact BK530.out)) : gb530 ≠ gb531)); have n6_ := Aside0.mk ((by rw [hg]; exact Nat.ne_of_gt (blk_lt (g := gb530) (o := .cells #[.int .i64 a0_0, .int .i64 a0_1, .float .f64 a0_2, .string a0_3] 50 (0, 0)) (by (with_reducible repeat (first | refine blk_drewN ?_ _ | refine blk_drew ?_ | refine blk_alloc ?_ _)); exact BK530.out)) : gb531 ≠ gb530)); clear BK530; clear HB; have BK530 := n0_; have HB := n1_; have BK531 := n2_; have GW531 := n3_; have GE531 := n4_; have NB530_531 := n5_; have NB531_530 := n6_; clear n0_ n1_ n2_ n3_ n4_ n5_ n6_; clear hb hbox hg; have hnb23 := NB530_531.out; have hnc23 := NB531_530.out; have hcz24_0 : w22.cell? ⟨gb530, 0, none⟩ = some (.int .i64 a0_0) := (blk_cell BK530.out 0).trans rfl; have hcz24_1 : w22.cell? ⟨gb530, 1, none⟩ = some (.int .i64 a0_1) := (blk_cell BK530.out 1).trans rfl; have hcz24_2 : w22.cell? ⟨gb530, 2, none⟩ = some (.float .f64 a0_2) := (blk_cell BK530.out 2).trans rfl; have hcz24_3 : w22.cell? ⟨gb530, 3, none⟩ = some (.string a0_3) := (blk_cell BK530.out 3).trans rfl; have hfz24_0 := blk_frozen BK530.out 0; have hfz24_1 := blk_frozen BK530.out 1; have hfz24_2 := blk_frozen BK530.out 2; have hfz24_3 := blk_frozen BK530.out 3; have hcz25_0 : w22.cell? ⟨gb531, 0, none⟩ = some (.int .i64 a1_0) := (blk_cell BK531.out 0).trans rfl; have hcz25_1 : w22.cell? ⟨gb531, 1, none⟩ = some (.int .i64 a1_1) := (blk_cell BK531.out 1).trans rfl; have hcz25_2 : w22.cell? ⟨gb531, 2, none⟩ = some (.float .f64 a1_2) := (blk_cell BK531.out 2).trans rfl; have hcz25_3 : w22.cell? ⟨gb531, 3, none⟩ = some (.string a1_3) := (blk_cell BK531.out 3).trans rfl; have hfz25_0 := blk_frozen BK531.out 0; have hfz25_1 := blk_frozen BK531.out 1; have hfz25_2 := blk_frozen BK531.out 2; have hfz25_3 := blk_frozen BK531.out 3)))
    go_ret
    exact ⟨by first | rfl | (simp [errW_none, errW_some] <;> rfl) | (simp [*, errW_none, errW_some] <;> rfl), by repeat (first | (with_reducible first | exact HB.out | apply below_alloc | apply pw_below_drewN | apply below_drew1 | refine below_set ?_ GE530.out | refine below_set ?_ GE531.out) | exact HB.out)⟩
end Go.Proofs.YtpiifdbicibelaaDoor.PA
end
section
namespace Go.Proofs.YtpiifdbicibelaaDoor.Pure
open Go.RowKit Go.Proofs Go.Proofs.YtpiifdbicibelaaDoorW.PrintWords Go.Proofs.YtpiifdbicibelaaDoorW.PrintLast Go.Proofs.YtpiifdbicibelaaDoorW.PrintMore Go.Proofs.YtpiifdbicibelaaDoor.PA Go.Proofs.YtpiifdbicibelaaDoor.OpenK
set_option linter.unusedVariables false
set_option linter.unusedSimpArgs false
def valB (r : G5) : S50 := ⟨r.1, r.2.1, r.2.2.1, r.2.2.2.1⟩
theorem lit_i64 {b : Int} (h0 : -9223372036854775808 ≤ b) (h1 : b ≤ 9223372036854775807) : (Lit.int .i64 b).wf = true := by
  simpa [Lit.wf, IntKind.min, IntKind.max, IntKind.signed, IntKind.bits] using And.intro h0 h1
theorem bk_fits {L : List Int} (hL : Bytes L) (hlen : L.length ≤ 1000000) : (bk L).2.2.2.2 = 0 ∨ ∃ n : Nat, (bk L).2.2.2.2 = (n : Int) ∧ 1 ≤ n ∧ n ≤ L.length ∧ wf50 (valB (bk L)) := by
  cases L with
  | nil => exact .inl rfl
  | cons t M =>
    have hM := hL.tail
    have ht := hL t (by simp)
    simp only [bk]
    by_cases h1 : t = 1
    · rw [if_pos h1]
      exact .inr ⟨1, rfl, Nat.le_refl _, by simp, wf_of (by decide) (by decide) (by decide) (by decide)⟩
    rw [if_neg h1]
    by_cases h2 : t = 2
    · rw [if_pos h2]
      cases M with
      | nil => exact .inl rfl
      | cons b M' =>
        have hb := hM b (by simp)
        by_cases h3 : b < 2
        · have e : (if b < 2 then ((1, b, 0, (⟨#[]⟩ : ByteArray), 2) : G5) else (1, 0, 0, (⟨#[]⟩ : ByteArray), 0)) = (1, b, 0, (⟨#[]⟩ : ByteArray), 2) := if_pos h3
          simp only [e]
          refine .inr ⟨2, rfl, by decide, by simp, ?_⟩
          show wf50 ⟨1, b, 0, (⟨#[]⟩ : ByteArray)⟩
          exact wf_of (by decide) (lit_small (by omega)) (by decide) (by decide)
        · have e : (if b < 2 then ((1, b, 0, (⟨#[]⟩ : ByteArray), 2) : G5) else (1, 0, 0, (⟨#[]⟩ : ByteArray), 0)) = (1, 0, 0, (⟨#[]⟩ : ByteArray), 0) := if_neg h3
          simp only [e]
          exact .inl trivial
    rw [if_neg h2]
    by_cases h3 : t = 3
    · rw [if_pos h3]
      unfold bkInt
      cases hr : rawInt M with
      | none => exact .inl rfl
      | some p =>
        obtain ⟨m, b, k⟩ := p
        have hrr := raw_range hM hr
        simp only
        by_cases hbig : 9223372036854775808 ≤ m
        · rw [if_pos hbig]; exact .inl rfl
        · rw [if_neg hbig]
          refine .inr ⟨2 + k, rfl, by omega, by simp only [List.length_cons]; omega, wf_of (by show (0 : Int) ≤ 2 ∧ (2 : Int) ≤ 5; decide) ?_ (by show 0 < 18446744073709551616; decide) (by show (⟨#[]⟩ : ByteArray).size ≤ _; decide)⟩
          show (Lit.int .i64 (intOfRaw m b)).wf = true
          unfold intOfRaw
          split <;> exact lit_i64 (by omega) (by omega)
    rw [if_neg h3]
    by_cases h4 : t = 4
    · rw [if_pos h4]
      by_cases h : M.length < 8
      · rw [if_pos h]; exact .inl rfl
      · rw [if_neg h]
        have hl : (M.take 8).length = 8 := by rw [List.length_take]; omega
        exact .inr ⟨9, rfl, by decide, by simp only [List.length_cons]; omega, wf_of (by show (0 : Int) ≤ 3 ∧ (3 : Int) ≤ 5; decide) (by show (Lit.int .i64 0).wf = true; decide) (floatOf_lt (hM.take 8) hl) (by show (⟨#[]⟩ : ByteArray).size ≤ _; decide)⟩
    rw [if_neg h4]
    by_cases h5 : t = 5 ∨ t = 6
    · rw [if_pos h5]
      unfold bkText
      cases hto : textOff [] (toB M) with
      | none => exact .inl rfl
      | some p =>
        obtain ⟨u, r⟩ := p
        have hl := textOff_len (toB M).length (toB M) [] u r (Nat.le_refl _) hto
        have hm : (toB M).length = M.length := by simp [toB]
        rw [hm] at hl
        simp only [List.length_nil, List.length_cons] at hl hlen ⊢
        refine .inr ⟨1 + M.length - r.length, by omega, by omega, by omega, wf_of (by show (0 : Int) ≤ t - 1 ∧ t - 1 ≤ 5; omega) (by show (Lit.int .i64 0).wf = true; decide) (by show 0 < 18446744073709551616; decide) ?_⟩
        show u.toArray.size ≤ _
        simp; omega
    · rw [if_neg h5]; exact .inl rfl
theorem bk_complete {v : S50} (hv : Told v) {R : List Int} (hT : Tail R) (hR : Bytes R) : bk (codeOf v ++ R) = (v.f0, v.f1, v.f2, v.f3, ((codeOf v).length : Int)) := by
  obtain ⟨a, b, c, d⟩ := v
  obtain ⟨hok, ⟨_, w1, w2, w3⟩, hp⟩ := hv
  have hf := chk_fields hok
  obtain ⟨ha, f1, f2, f3, f4, f5, f6⟩ := hf
  simp only at ha f1 f2 f3 f4 f5 f6 w1 w2 w3 hp
  by_cases h0 : a = 0
  · subst h0
    obtain rfl := f2 (by decide) (by decide)
    obtain rfl := f3 (by decide)
    obtain rfl := f4 (by decide) (by decide)
    simp [codeOf, codeV, bk]
  by_cases h1 : a = 1
  · subst h1
    obtain rfl := f3 (by decide)
    obtain rfl := f4 (by decide) (by decide)
    have hb : b % 256 = b := by rcases f1 rfl with h | h <;> omega
    have hb1 : b < 2 := by rcases f1 rfl with h | h <;> omega
    simp [codeOf, codeV, hb, bk, hb1]
  by_cases h2 : a = 2
  · subst h2
    obtain rfl := f3 (by decide)
    obtain rfl := f4 (by decide) (by decide)
    obtain ⟨m, k, e1, e2, e3, e4, e5⟩ := raw_complete w1 R
    have ec : codeOf ⟨2, b, 0, (⟨#[]⟩ : ByteArray)⟩ = 3 :: codeInt b := by simp [codeOf, codeV]
    rw [ec, List.cons_append]
    have eg : bk (3 :: (codeInt b ++ R)) = bkInt (codeInt b ++ R) := by simp [bk]
    rw [eg]
    unfold bkInt
    rw [e1]
    simp only
    rw [if_neg (by omega), e2, List.length_cons, e5]
    have : 2 + k = k + 1 + 1 := by omega
    rw [this]
  by_cases h3 : a = 3
  · subst h3
    obtain rfl := f2 (by decide) (by decide)
    obtain rfl := f4 (by decide) (by decide)
    have hpc := hp rfl
    have ec : codeOf ⟨3, 0, c, (⟨#[]⟩ : ByteArray)⟩ = 4 :: codeBits c := by simp [codeOf, codeV, hpc]
    have h8 := codeBits_length c
    rw [ec, List.cons_append]
    have e1 : (codeBits c ++ R).take 8 = codeBits c := by rw [List.take_append_of_le_length (by omega), List.take_of_length_le (by omega)]
    have hn : ¬ (codeBits c ++ R).length < 8 := by rw [List.length_append]; omega
    simp only [bk]
    rw [if_neg (by decide), if_neg (by decide), if_neg (by decide), if_pos trivial, if_neg hn, e1, codeBits_float w2, List.length_cons, h8]
    rfl
  have hbc : b = 0 := f2 h1 h2
  have hcc : c = 0 := f3 h3
  subst hbc hcc
  have h45 : a = 4 ∨ a = 5 := by omega
  have ec : codeOf ⟨a, 0, 0, d⟩ = (a + 1) :: codeText d.data.toList := by
    rcases h45 with rfl | rfl <;> simp [codeOf, codeV]
  rw [ec, List.cons_append]
  have eg : bk ((a + 1) :: (codeText d.data.toList ++ R)) = bkText (a + 1) (codeText d.data.toList ++ R) := by
    simp only [bk]
    rw [if_neg (by omega), if_neg (by omega), if_neg (by omega), if_neg (by omega), if_pos (by omega)]
  rw [eg]
  unfold bkText
  rw [text_complete _ _ _ hT hR]
  simp only [List.nil_append]
  have e1 : a + 1 - 1 = a := by omega
  have e2 : (⟨d.data.toList.toArray⟩ : ByteArray) = d := by cases d; simp
  have e3 : (1 + ((codeText d.data.toList ++ R).length : Int)) - ((toB R).length : Int) = (((a + 1) :: codeText d.data.toList).length : Int) := by
    simp only [toB, List.length_map, List.length_append, List.length_cons]; omega
  rw [e1, e2, e3]
theorem build_some : ∀ (xs : List S50) (acc : List Int), (acc ++ flat xs).length ≤ 1024 → build acc xs = some (acc ++ flat xs)
  | [], acc, _ => by simp [build, flat]
  | x :: xs, acc, h => by
    rw [flat_cons, ← List.append_assoc] at h ⊢
    have h1 : ¬ 1024 < (acc ++ codeOf x).length := by rw [List.length_append] at h; omega
    simp only [build]
    rw [if_neg h1]
    exact build_some xs (acc ++ codeOf x) h
theorem encode_flat {xs : List S50} (hc : ∀ x ∈ xs, chkV x = 0) (hl : (flat xs).length ≤ 1024) : encode xs = (strOfNums (flat xs), 0) := by
  have e : xs.all (fun x => chkV x == 0) = true := List.all_eq_true.2 fun x hx => by simp [hc x hx]
  unfold encode
  rw [if_pos e, build_some xs [] (by simpa using hl)]
  simp
theorem str_toList {L M : List Int} (hL : Bytes L) (hM : Bytes M) : (strOfNums L).toList = (strOfNums M).toList ↔ L = M := by
  constructor
  · intro h
    rw [Lib.toList_data, Lib.toList_data] at h
    exact str_inj hL hM (Go.WideShapes.bytes_inj h)
  · rintro rfl; rfl
theorem ref_total (L : List Int) (hL : Bytes L) (hlen : L.length ≤ 1024) : ∀ (n i : Nat) (vs : List S50), L.length - i ≤ n → i ≤ L.length → vs.length ≤ i → (∀ v ∈ vs, wf50 v) →
    ∃ r : List S50 × Int, Ev (fun k => vellumref02_Decode.l0 k (strOfNums L) vs (i : Int)) r ∧ (r = ([], 20) ∨ ∃ ws, (∀ w ∈ ws, wf50 w ∧ chkV w = 0) ∧ L = flat ws ∧ r = (ws, 0)) := by
  intro n
  induction n with
  | zero =>
    intro i vs hn hi hv hw
    have hs : ∀ k, vellumref02_Decode.l0 (k + 1) (strOfNums L) vs (i : Int) = (vellumref02_Encode.f k vs).bind fun bt528 => (if bt528.2 = 0 then (if bt528.1.toList = (strOfNums L).toList then (some (vs, 0)) else (some (([] : List (S50)), 20))) else (some (([] : List (S50)), 20))) := by
      intro k
      simp only [vellumref02_Decode.l0]
      rw [if_neg (by rw [str_size]; omega)]
    have he := encode_ref vs hw (by omega)
    by_cases h0 : (encode vs).2 = 0
    · obtain ⟨g1, g2, g3⟩ := encode_ok h0
      by_cases h1 : flat vs = L
      · refine ⟨(vs, 0), Ev.step hs (Ev.bind he (Ev.pos h0 (Ev.pos ?_ Ev.pure))), .inr ⟨vs, fun w hw' => ⟨hw w hw', g1 w hw'⟩, h1.symm, rfl⟩⟩
        rw [g2, h1]
      · refine ⟨([], 20), Ev.step hs (Ev.bind he (Ev.pos h0 (Ev.neg ?_ Ev.pure))), .inl rfl⟩
        rw [g2]
        exact fun h => h1 ((str_toList (flat_bytes hw) hL).1 h)
    · exact ⟨([], 20), Ev.step hs (Ev.bind he (Ev.neg h0 Ev.pure)), .inl rfl⟩
  | succ n ih =>
    intro i vs hn hi hv hw
    by_cases hlt : i < L.length
    · have hne : L.drop i ≠ [] := by rw [Ne, List.drop_eq_nil_iff]; omega
      have hld : (L.drop i).length = L.length - i := by rw [List.length_drop]
      have hb := back_ev (L.drop i) (hL.drop i) hne (by omega)
      have hs : ∀ k, vellumref02_Decode.l0 (k + 1) (strOfNums L) vs (i : Int) = (vellumref02_back.f k (strOfNums (L.drop i))).bind fun bt519 => (if bt519.2.2.2.2 = 0 then (some (([] : List (S50)), 20)) else (if vs.length < 3518437208883 then (vellumref02_Decode.l0 k (strOfNums L) (vs ++ [(⟨bt519.1, bt519.2.1, bt519.2.2.1, bt519.2.2.2.1⟩ : S50)]) (wrap64 ((i : Int) + bt519.2.2.2.2))) else (none))) := by
        intro k
        have hx : (strOfNums L).extract ((i : Int)).toNat (strOfNums L).size = strOfNums (L.drop i) := str_drop L i
        simp only [vellumref02_Decode.l0, hx]
        rw [if_pos (by rw [str_size]; omega), if_pos (by omega), if_pos (by rw [str_size]; omega)]
      rcases bk_fits (hL.drop i) (by omega) with h0 | ⟨m, hm, m1, m2, m3⟩
      · exact ⟨([], 20), Ev.step hs (Ev.bind hb (Ev.pos h0 Ev.pure)), .inl rfl⟩
      · obtain ⟨r, hr, hcase⟩ := ih (i + m) (vs ++ [valB (bk (L.drop i))]) (by omega) (by omega) (by simp; omega) (by
          intro v hv'
          rcases List.mem_append.1 hv' with h | h
          · exact hw v h
          · simp at h; subst h; exact m3)
        refine ⟨r, Ev.step hs (Ev.bind hb (Ev.neg (by omega) (Ev.pos (by omega) ?_))), hcase⟩
        have hwr : wrap64 ((i : Int) + (m : Int)) = ((i + m : Nat) : Int) := by rw [wrap64_id (by omega) (by omega)]; omega
        rw [hm, hwr]
        exact hr
    · have := ih i vs (by omega) hi hv hw
      exact this
theorem flat_app (xs ys : List S50) : flat (xs ++ ys) = flat xs ++ flat ys := by simp [flat]
theorem ref_flat (xs : List S50) (hx : ∀ v ∈ xs, Told v) (hlen : (flat xs).length ≤ 1024) : ∀ (ys done : List S50), xs = done ++ ys →
    Ev (fun k => vellumref02_Decode.l0 k (strOfNums (flat xs)) done ((flat done).length : Int)) (xs, 0)
  | [], done, e => by
    have e' : xs = done := by rw [e]; simp
    subst e'
    have hw : ∀ v ∈ xs, wf50 v := fun v h => (hx v h).wf
    have hxl : ∀ zs : List S50, zs.length ≤ (flat zs).length := by
      intro zs
      induction zs with
      | nil => simp
      | cons z zs ih => rw [flat_cons, List.length_append, List.length_cons]; have := codeOf_pos z; omega
    have hl := hxl xs
    refine Ev.step (g := fun k => (vellumref02_Encode.f k xs).bind fun bt528 => (if bt528.2 = 0 then (if bt528.1.toList = (strOfNums (flat xs)).toList then (some (xs, 0)) else (some (([] : List (S50)), 20))) else (some (([] : List (S50)), 20)))) (fun k => ?_) ?_
    · simp only [vellumref02_Decode.l0]
      rw [if_neg (by rw [str_size]; omega)]
    · have he := encode_flat (fun v h => (hx v h).ok) hlen
      refine Ev.bind (encode_ref xs hw (by omega)) (Ev.pos (by rw [he]) (Ev.pos (by rw [he]) Ev.pure))
  | y :: ys, done, e => by
    have hy : Told y := hx y (by rw [e]; simp)
    have hw : ∀ v ∈ ys, wf50 v := fun v h => (hx v (by rw [e]; simp [h])).wf
    have hf : flat xs = flat done ++ (codeOf y ++ flat ys) := by rw [e, flat_app, flat_cons]
    have hb : Bytes (flat xs) := flat_bytes fun v h => (hx v h).wf
    have hdrop : (flat xs).drop (flat done).length = codeOf y ++ flat ys := by rw [hf]; simp
    have hll : (flat xs).length = (flat done).length + ((codeOf y).length + (flat ys).length) := by rw [hf]; simp
    have hpos := codeOf_pos y
    have hbk := back_ev ((flat xs).drop (flat done).length) (hb.drop _) (by rw [hdrop]; intro h; rw [List.append_eq_nil_iff] at h; rw [h.1] at hpos; simp at hpos) (by rw [hdrop]; simp; omega)
    rw [hdrop, bk_complete hy (flat_tail ys) (flat_bytes hw)] at hbk
    have hx' : (strOfNums (flat xs)).extract (((flat done).length : Int)).toNat (strOfNums (flat xs)).size = strOfNums (codeOf y ++ flat ys) := by
      have := str_drop (flat xs) (flat done).length
      rw [hdrop] at this
      exact this
    have hdl : done.length ≤ 1024 := by
      have hxl : ∀ zs : List S50, zs.length ≤ (flat zs).length := by
        intro zs
        induction zs with
        | nil => simp
        | cons z zs ih => rw [flat_cons, List.length_append, List.length_cons]; have := codeOf_pos z; omega
      have := hxl done
      omega
    refine Ev.step (g := fun k => (vellumref02_back.f k (strOfNums (codeOf y ++ flat ys))).bind fun bt519 => (if bt519.2.2.2.2 = 0 then (some (([] : List (S50)), 20)) else (if done.length < 3518437208883 then (vellumref02_Decode.l0 k (strOfNums (flat xs)) (done ++ [(⟨bt519.1, bt519.2.1, bt519.2.2.1, bt519.2.2.2.1⟩ : S50)]) (wrap64 (((flat done).length : Int) + bt519.2.2.2.2))) else (none)))) (fun k => ?_) ?_
    · simp only [vellumref02_Decode.l0, hx']
      rw [if_pos (by rw [str_size]; omega), if_pos (by omega), if_pos (by rw [str_size]; omega)]
    · refine Ev.bind hbk (Ev.neg (by show ¬ (((codeOf y).length : Int) = 0); omega) (Ev.pos (by omega) ?_))
      have hwr : wrap64 (((flat done).length : Int) + ((codeOf y).length : Int)) = ((flat (done ++ [y])).length : Int) := by
        rw [wrap64_id (by omega) (by omega), flat_app]
        simp [flat]
      show Ev (fun k => vellumref02_Decode.l0 k (strOfNums (flat xs)) (done ++ [y]) (wrap64 (((flat done).length : Int) + ((codeOf y).length : Int)))) (xs, 0)
      rw [hwr]
      exact ref_flat xs hx hlen ys (done ++ [y]) (by rw [e]; simp)
theorem Ev.uniq {α : Type} {f : Nat → Option α} {a b : α} (h1 : Ev f a) (h2 : Ev f b) : a = b := by
  obtain ⟨k1, h1⟩ := h1
  obtain ⟨k2, h2⟩ := h2
  have e1 := h1 (max k1 k2) (by omega)
  have e2 := h2 (max k1 k2) (by omega)
  rw [e1] at e2
  exact Option.some.inj e2
def plainV (v : S50) : S50 := ⟨v.f0, v.f1, if v.f0 = 3 then plainF v.f2 else v.f2, v.f3⟩
theorem plainF_idem {c : Nat} (hc : c < 18446744073709551616) : plainF (plainF c) = plainF c := by
  by_cases hn : isNum c
  · obtain ⟨h1, h2, h3⟩ := plainF_num hc hn
    have hlt := plainF_lt hc
    unfold plainF at h1 h2 h3 hlt ⊢
    by_cases h0 : feq c 0 = true
    · rw [if_pos h0]; decide +kernel
    · rw [if_neg h0, if_pos ((feq_num hc).2 hn), if_neg h0, if_pos ((feq_num hc).2 hn)]
  · rw [plainF_nan hc hn]; decide +kernel
theorem plainV_told {v : S50} (hw : wf50 v) (hc : chkV v = 0) : Told (plainV v) := by
  obtain ⟨a, b, c, d⟩ := v
  obtain ⟨w0, w1, w2, w3⟩ := hw
  by_cases h3 : a = 3
  · subst h3
    have hcc : chk 3 b (plainF c) d = 0 := by
      have : chk 3 b c d = 0 := hc
      unfold chk at this ⊢
      simpa using this
    exact ⟨by simpa [plainV, chkV] using hcc, ⟨w0, w1, by show (if (3 : Int) = 3 then plainF c else c) < _; rw [if_pos rfl]; exact plainF_lt w2, w3⟩, fun _ => by show plainF (if (3 : Int) = 3 then plainF c else c) = (if (3 : Int) = 3 then plainF c else c); rw [if_pos rfl]; exact plainF_idem w2⟩
  · have e : plainV ⟨a, b, c, d⟩ = ⟨a, b, c, d⟩ := by simp [plainV, h3]
    rw [e]
    exact ⟨hc, ⟨w0, w1, w2, w3⟩, fun h => absurd h h3⟩
theorem plainV_code {v : S50} (hw : wf50 v) : codeOf (plainV v) = codeOf v := by
  obtain ⟨a, b, c, d⟩ := v
  by_cases h3 : a = 3
  · subst h3
    simp only [plainV, codeOf, codeV]
    simp [plainF_idem hw.2.2.1]
  · simp [plainV, h3]
theorem plainV_flat : ∀ {xs : List S50}, (∀ x ∈ xs, wf50 x) → flat (xs.map plainV) = flat xs
  | [], _ => rfl
  | x :: xs, h => by
    rw [List.map_cons, flat_cons, flat_cons, plainV_code (h x (by simp)), plainV_flat fun y hy => h y (by simp [hy])]
/-- What both Decodes tell of a key. -/
theorem decode_both (s : ByteArray) : ∃ r : List S50 × Int, Ev (fun k => code_Decode.f k s) r ∧ Ev (fun k => vellumref02_Decode.f k s) r ∧ (r.1 = [] ∧ r.2 ≠ 0 ∨ (∀ v ∈ r.1, Told v) ∧ r.2 = 0 ∧ s = strOfNums (flat r.1) ∧ (flat r.1).length ≤ 1024) := by
  have hs := str_bytes s
  have hB := bytesOf_bytes s
  generalize bytesOf s = L at hs hB
  subst hs
  simp only [code_Decode.f, vellumref02_Decode.f, str_size]
  by_cases hlong : (L.length : Int) > 1024
  · exact ⟨([], 3), Ev.pos hlong Ev.pure, Ev.pos hlong Ev.pure, .inl ⟨rfl, by decide⟩⟩
  have hlen : L.length ≤ 1024 := by omega
  obtain ⟨r, hr, hcase⟩ := decode_total L.length L [] (Nat.le_refl _) hB (by simp; omega)
  rcases hcase with rfl | ⟨vs, h1, h2, h3⟩
  · obtain ⟨r2, hr2, hcase2⟩ := ref_total L hB hlen L.length 0 [] (by omega) (by omega) (by simp) (by simp)
    rcases hcase2 with rfl | ⟨ws, g1, g2, g3⟩
    · exact ⟨([], 20), Ev.neg hlong hr, Ev.neg hlong hr2, .inl ⟨rfl, by decide⟩⟩
    · exfalso
      have hw : ∀ w ∈ ws, wf50 w := fun w h => (g1 w h).1
      have hd := decode_flat (ws.map plainV) [] (by
        intro v hv
        obtain ⟨w, hw1, rfl⟩ := List.mem_map.1 hv
        exact plainV_told (g1 w hw1).1 (g1 w hw1).2) (by rw [plainV_flat hw, ← g2]; simp; omega)
      rw [plainV_flat hw, ← g2] at hd
      have := Ev.uniq hr hd
      simp at this
  · subst h2
    have hd := ref_flat vs h1 hlen vs [] rfl
    refine ⟨(vs, 0), Ev.neg hlong ?_, Ev.neg hlong hd, .inr ⟨h1, rfl, rfl, hlen⟩⟩
    rw [h3] at hr
    exact hr
theorem flat_len : ∀ zs : List S50, zs.length ≤ (flat zs).length
  | [] => by simp
  | z :: zs => by rw [flat_cons, List.length_append, List.length_cons]; have := codeOf_pos z; have := flat_len zs; omega
end Go.Proofs.YtpiifdbicibelaaDoor.Pure
end
section
namespace Go.Proofs.YtpiifdbicibelaaDoor.Pure
open Go.RowKit Go.Proofs Go.Proofs.YtpiifdbicibelaaDoorW.PrintWords Go.Proofs.YtpiifdbicibelaaDoor.PA Go.Proofs.YtpiifdbicibelaaDoor.OpenK
set_option linter.unusedVariables false
theorem nb_1 : nb 1 = 1 := by unfold nb; simp; unfold nb; simp
theorem encode_one : encode [(⟨2, 1, 0, (⟨#[]⟩ : ByteArray)⟩ : S50)] = (⟨#[3, 129, 1]⟩, 0) := by
  have e : (⟨#[]⟩ : ByteArray).toList = [] := by decide +kernel
  have e2 : (⟨#[]⟩ : ByteArray).size = 0 := rfl
  simp [encode, e2, chkV, chk, build, codeOf, codeV, codeInt, nb_1, be, e, strOfNums]
theorem awake_ev : Ev (fun k => vellumlaw02_awake.f k) true := by
  simp only [vellumlaw02_awake.f]
  refine Ev.bind (encode_code _ ?_ (by simp)) ?_
  · intro x hx
    simp at hx
    subst hx
    exact ⟨by decide, by decide, by decide, by decide⟩
  · rw [encode_one]
    exact Ev.const (by decide +kernel)
end Go.Proofs.YtpiifdbicibelaaDoor.Pure
end
section
namespace Go.Proofs.YtpiifdbicibelaaDoor.PA
open Go.RowKit Go.Proofs.YtpiifdbicibelaaDoorW.PrintWords Go.Proofs.YtpiifdbicibelaaDoorW.PrintLast Go.Proofs.YtpiifdbicibelaaDoorW.PrintMore
attribute [local go_sem] max2_int min2_int max_two min_two max_three min_three max_four min_four   -- for this text's walks alone
set_option linter.unusedVariables false
set_option linter.unusedSimpArgs false
def vellumref01_Plain.j0 : Nat → Bool → Int → Int → Nat → ByteArray → Option (Int × Int × Nat × ByteArray)
  | 0, _, _, _, _, _ => none
  | k + 1, x10, x546000, x546001, x546002, x546003 => if x10 = true then (if x546000 = 3 then (if (feq 9221120237041090560 0) = true then (some (x546000, x546001, 0, x546003)) else (some (x546000, x546001, 9221120237041090560, x546003))) else (some (x546000, x546001, 9221120237041090560, x546003))) else (if x546000 = 3 then (if (feq x546002 0) = true then (some (x546000, x546001, 0, x546003)) else (some (x546000, x546001, x546002, x546003))) else (some (x546000, x546001, x546002, x546003)))
def vellumref01_Plain.f (k : Nat) (a0_0 : Int) (a0_1 : Int) (a0_2 : Nat) (a0_3 : ByteArray) : Option (Int × Int × Nat × ByteArray) := if a0_0 = 3 then ((vellumref01_isNaN.f a0_2).bind fun t547 => (vellumref01_Plain.j0 k t547 a0_0 a0_1 a0_2 a0_3)) else (vellumref01_Plain.j0 k false a0_0 a0_1 a0_2 a0_3)
set_option maxHeartbeats 8000000 in
set_option maxRecDepth 100000 in
theorem vellumref01_Plain.calls (k : Nat) (a0_0 : Int) (a0_1 : Int) (a0_2 : Nat) (a0_3 : ByteArray) (r1 : Int) (r2 : Int) (r3 : Nat) (r4 : ByteArray) (w : World) (h : vellumref01_Plain.f k a0_0 a0_1 a0_2 a0_3 = some (r1, r2, r3, r4)) :
    Calls Tryd.prog 47 #[.agg #[.int .i64 a0_0, .int .i64 a0_1, .float .f64 a0_2, .string a0_3]] w fun e w' => e = .returned (.agg #[.int .i64 r1, .int .i64 r2, .float .f64 r3, .string r4]) ∧ Below w.heap.size w w' := by
  have hu50 := Tryd.underlying50
  have HB := Aside0.mk (Below.refl w.heap.size w)
  have H : (if a0_0 = 3 then ((vellumref01_isNaN.f a0_2).bind fun t547 => (vellumref01_Plain.j0 k t547 a0_0 a0_1 a0_2 a0_3)) else (vellumref01_Plain.j0 k false a0_0 a0_1 a0_2 a0_3)) = some (r1, r2, r3, r4) := h
  clear h
  have HC2 := Aside0.mk H
  clear H
  go_enter Tryd.func47, Tryd.ntmps47
  go_upto_region 1 with (first | ((with_reducible refine gate_dst (N := 1) rfl ?_); refine box_event ?hg (N := 1) ?hd (cs := #[.int .i64 a0_0, .int .i64 a0_1, .float .f64 a0_2, .string a0_3]) (t := 50) ?hr ?_; (case hd => rfl); (case hg => rfl); (case hr => first | (go_simp; done) | (go_simp; rfl)); intro gb545 hg w3 hbox hb; have n0_ := Aside0.mk (below_step (by repeat (first | (with_reducible first | exact HB.out | apply below_alloc | apply pw_below_drewN | apply below_drew1) | exact HB.out)) hb); have n1_ := Aside0.mk (hbox); have n2_ := Aside0.mk ((by rw [hg]; exact (below_size (by repeat (first | (with_reducible first | exact HB.out | apply below_alloc | apply pw_below_drewN | apply below_drew1) | exact HB.out))) : w.heap.size ≤ gb545)); have n3_ := Aside0.mk ((by rw [hg]; exact (below_size (by repeat (first | (with_reducible first | exact HB.out | apply below_alloc | apply pw_below_drewN | apply below_drew1) | exact HB.out))) : w.heap.size ≤ gb545)); clear HB; have HB := n0_; have BK545 := n1_; have GW545 := n2_; have GE545 := n3_; clear n0_ n1_ n2_ n3_; clear hb hbox hg) | ((with_reducible refine gate_dst (N := 2) rfl ?_); refine box_event ?hg (N := 2) ?hd (cs := #[.int .i64 0, .int .i64 0, .float .f64 0, .string (⟨#[]⟩ : ByteArray)]) (t := 50) ?hr ?_; (case hd => rfl); (case hg => rfl); (case hr => first | (go_simp; done) | (go_simp; rfl)); intro gb546 hg w4 hbox hb; have n0_ := Aside0.mk (blk_below (g := gb545) (o := .cells #[.int .i64 a0_0, .int .i64 a0_1, .float .f64 a0_2, .string a0_3] 50 (0, 0)) (by (with_reducible repeat (first | refine blk_drewN ?_ _ | refine blk_drew ?_ | refine blk_alloc ?_ _)); exact BK545.out) hb); have n1_ := Aside0.mk (below_step (by repeat (first | (with_reducible first | exact HB.out | apply below_alloc | apply pw_below_drewN | apply below_drew1 | refine below_set ?_ GE545.out) | exact HB.out)) hb); have n2_ := Aside0.mk (hbox); have n3_ := Aside0.mk ((by rw [hg]; exact (below_size (by repeat (first | (with_reducible first | exact HB.out | apply below_alloc | apply pw_below_drewN | apply below_drew1 | refine below_set ?_ GE545.out) | exact HB.out))) : w.heap.size ≤ gb546)); have n4_ := Aside0.mk ((by rw [hg]; exact (below_size (by repeat (first | (with_reducible first | exact HB.out | apply below_alloc | apply pw_below_drewN | apply below_drew1 | refine below_set ?_ GE545.out) | exact HB.out))) : w.heap.size ≤ gb546)); have n5_ := Aside0.mk ((by rw [hg]; exact Nat.ne_of_lt (blk_lt (g := gb545) (o := .cells #[.int .i64 a0_0, .int .i64 a0_1, .float .f64 a0_2, .string a0_3] 50 (0, 0)) (by (with_reducible repeat (first | refine blk_drewN ?_ _ | refine blk_drew ?_ | refine blk_alloc ?_ _)); exact BK545.out)) : gb545 ≠ gb546)); have n6_ := Aside0.mk ((by rw [hg]; exact Nat.ne_of_gt (blk_lt (g := gb545) (o := .cells #[.int .i64 a0_0, .int .i64 a0_1, .float .f64 a0_2, .string a0_3] 50 (0, 0)) (by (with_reducible repeat (first | refine blk_drewN ?_ _ | refine blk_drew ?_ | refine blk_alloc ?_ _)); exact BK545.out)) : gb546 ≠ gb545)); clear BK545; clear HB; have BK545 := n0_; have HB := n1_; have BK546 := n2_; have GW546 := n3_; have GE546 := n4_; have NB545_546 := n5_; have NB546_545 := n6_; clear n0_ n1_ n2_ n3_ n4_ n5_ n6_; clear hb hbox hg))
  (try simp only [Act.put, List.setIfInBounds_toArray, List.set_cons_zero, List.set_cons_succ])
  go_cut [10] (fun v10 wc => ∃ (kq : Nat) (x10_1 : Bool), v10 = .bool x10_1 ∧ Aside0 (vellumref01_Plain.j0 kq x10_1 a0_0 a0_1 a0_2 a0_3 = some (r1, r2, r3, r4)) ∧ Aside0 (kq ≤ k) ∧ Aside0 (wc.heap[gb545]? = some (.cells #[.int .i64 a0_0, .int .i64 a0_1, .float .f64 a0_2, .string a0_3] 50 (0, 0))) ∧ Aside0 (wc.heap[gb546]? = some (.cells #[.int .i64 0, .int .i64 0, .float .f64 0, .string (⟨#[]⟩ : ByteArray)] 50 (0, 0))) ∧ Aside0 (Below w.heap.size w wc))
  case first =>
    have H := HC2.out
    clear HC2
    by_cases c5 : a0_0 = 3
    · rw [if_pos c5] at H
      have c5b0 : (a0_0 == 3) = true := beq_iff_eq.mpr c5
      have c5b1 : (a0_0 != 3) = false := bne_eq_false_iff_eq.mpr c5
      clear c5
      (first | rw [c5b0] | (simp only [i64_w, i32_w]; rw [c5b0]) | skip)
      replace H := Option.bind_eq_some_iff.mp H
      obtain ⟨t547, A60, H⟩ := H
      replace H : (vellumref01_Plain.j0 k t547 a0_0 a0_1 a0_2 a0_3) = some (r1, r2, r3, r4) := H
      have A6 := Aside0.mk A60
      clear A60
      have H' := Aside0.mk H
      clear H
      have hnb7 := NB545_546.out
      have hnc7 := NB546_545.out
      have hcz8_0 : w4.cell? ⟨gb545, 0, none⟩ = some (.int .i64 a0_0) := (blk_cell BK545.out 0).trans rfl
      have hcz8_1 : w4.cell? ⟨gb545, 1, none⟩ = some (.int .i64 a0_1) := (blk_cell BK545.out 1).trans rfl
      have hcz8_2 : w4.cell? ⟨gb545, 2, none⟩ = some (.float .f64 a0_2) := (blk_cell BK545.out 2).trans rfl
      have hcz8_3 : w4.cell? ⟨gb545, 3, none⟩ = some (.string a0_3) := (blk_cell BK545.out 3).trans rfl
      have hfz8_0 := blk_frozen BK545.out 0
      have hfz8_1 := blk_frozen BK545.out 1
      have hfz8_2 := blk_frozen BK545.out 2
      have hfz8_3 := blk_frozen BK545.out 3
      go_wp2_with (first | (go_at_call 75; (with_reducible refine (vellumref01_isNaN.calls a0_2 t547 _ A6.out).mono ?_); rintro e w' ⟨rfl, ⟨nd, rfl⟩⟩))
      go_meet
      case rel => exact ⟨_, (t547), (by first | rfl | (simp; done) | (simp [*]; done) | (simp [bool_ne_nil]; done) | (simp; exact bool_ne_nil _)), H', ⟨by first | omega | exact Nat.le_refl _⟩, ⟨by (with_reducible repeat (first | refine blk_drewN ?_ _ | refine blk_drew ?_ | refine blk_alloc ?_ _)); exact BK545.out⟩, ⟨by (with_reducible repeat (first | refine blk_drewN ?_ _ | refine blk_drew ?_ | refine blk_alloc ?_ _)); exact BK546.out⟩, ⟨by repeat (first | (with_reducible first | exact HB.out | apply below_alloc | apply pw_below_drewN | apply below_drew1 | refine below_set ?_ GE545.out | refine below_set ?_ GE546.out) | exact HB.out)⟩⟩
    · rw [if_neg c5] at H
      have c5b0 : (a0_0 == 3) = false := beq_eq_false_iff_ne.mpr c5
      have c5b1 : (a0_0 != 3) = true := bne_iff_ne.mpr c5
      (first | rw [c5b0] | (simp only [i64_w, i32_w]; rw [c5b0]) | skip)
      have H' := Aside0.mk H
      clear H
      have hnb9 := NB545_546.out
      have hnc9 := NB546_545.out
      have hcz10_0 : w4.cell? ⟨gb545, 0, none⟩ = some (.int .i64 a0_0) := (blk_cell BK545.out 0).trans rfl
      have hcz10_1 : w4.cell? ⟨gb545, 1, none⟩ = some (.int .i64 a0_1) := (blk_cell BK545.out 1).trans rfl
      have hcz10_2 : w4.cell? ⟨gb545, 2, none⟩ = some (.float .f64 a0_2) := (blk_cell BK545.out 2).trans rfl
      have hcz10_3 : w4.cell? ⟨gb545, 3, none⟩ = some (.string a0_3) := (blk_cell BK545.out 3).trans rfl
      have hfz10_0 := blk_frozen BK545.out 0
      have hfz10_1 := blk_frozen BK545.out 1
      have hfz10_2 := blk_frozen BK545.out 2
      have hfz10_3 := blk_frozen BK545.out 3
      go_wp2
      go_meet
      case rel => exact ⟨_, (false), (by first | rfl | (simp; done) | (simp [*]; done) | (simp [bool_ne_nil]; done) | (simp; exact bool_ne_nil _)), H', ⟨by first | omega | exact Nat.le_refl _⟩, ⟨by (with_reducible repeat (first | refine blk_drewN ?_ _ | refine blk_drew ?_ | refine blk_alloc ?_ _)); exact BK545.out⟩, ⟨by (with_reducible repeat (first | refine blk_drewN ?_ _ | refine blk_drew ?_ | refine blk_alloc ?_ _)); exact BK546.out⟩, ⟨by repeat (first | (with_reducible first | exact HB.out | apply below_alloc | apply pw_below_drewN | apply below_drew1 | refine below_set ?_ GE545.out | refine below_set ?_ GE546.out) | exact HB.out)⟩⟩
  case rest =>
    clear HC2
    try clear p2
    try clear c4
    try clear c5
    try clear c5b0
    try clear c5b1
    try clear c7
    try clear c9
    try clear hcz10_0
    try clear hcz10_1
    try clear hcz10_2
    try clear hcz10_3
    try clear hcz8_0
    try clear hcz8_1
    try clear hcz8_2
    try clear hcz8_3
    try clear hfz10_0
    try clear hfz10_1
    try clear hfz10_2
    try clear hfz10_3
    try clear hfz8_0
    try clear hfz8_1
    try clear hfz8_2
    try clear hfz8_3
    obtain ⟨kq, x10_1, rfl, HA, HJ1, BK545, BK546, HB⟩ := hcut
    cases kq with
    | zero => exact absurd HA.out (by simp [vellumref01_Plain.j0])
    | succ kj1 =>
      have H := HA.out
      clear HA
      simp only [vellumref01_Plain.j0] at H
      by_cases c11 : x10_1 = true
      · subst c11
        have H1 : (if a0_0 = 3 then (if (feq 9221120237041090560 0) = true then (some (a0_0, a0_1, 0, a0_3)) else (some (a0_0, a0_1, 9221120237041090560, a0_3))) else (some (a0_0, a0_1, 9221120237041090560, a0_3))) = some (r1, r2, r3, r4) := by rw [if_pos rfl] at H; exact H
        clear H
        have H := H1
        clear H1
        by_cases c12 : a0_0 = 3
        · rw [if_pos c12] at H
          have c12b0 : (a0_0 == 3) = true := beq_iff_eq.mpr c12
          have c12b1 : (a0_0 != 3) = false := bne_eq_false_iff_eq.mpr c12
          clear c12
          by_cases c13 : (feq 9221120237041090560 0) = true
          · rw [if_pos c13] at H
            have c13b0 : (feq 9221120237041090560 0) = true := c13
            clear c13
            simp only [Option.some.injEq, Prod.mk.injEq] at H
            obtain ⟨rfl, rfl, rfl, rfl⟩ := H
            have hnb14 := NB545_546.out
            have hnc14 := NB546_545.out
            have hcz15_0 : wc.cell? ⟨gb545, 0, none⟩ = some (.int .i64 a0_0) := (blk_cell BK545.out 0).trans rfl
            have hcz15_1 : wc.cell? ⟨gb545, 1, none⟩ = some (.int .i64 a0_1) := (blk_cell BK545.out 1).trans rfl
            have hcz15_2 : wc.cell? ⟨gb545, 2, none⟩ = some (.float .f64 a0_2) := (blk_cell BK545.out 2).trans rfl
            have hcz15_3 : wc.cell? ⟨gb545, 3, none⟩ = some (.string a0_3) := (blk_cell BK545.out 3).trans rfl
            have hfz15_0 := blk_frozen BK545.out 0
            have hfz15_1 := blk_frozen BK545.out 1
            have hfz15_2 := blk_frozen BK545.out 2
            have hfz15_3 := blk_frozen BK545.out 3
            have hcz16_0 : wc.cell? ⟨gb546, 0, none⟩ = some (.int .i64 0) := (blk_cell BK546.out 0).trans rfl
            have hcz16_1 : wc.cell? ⟨gb546, 1, none⟩ = some (.int .i64 0) := (blk_cell BK546.out 1).trans rfl
            have hcz16_2 : wc.cell? ⟨gb546, 2, none⟩ = some (.float .f64 0) := (blk_cell BK546.out 2).trans rfl
            have hcz16_3 : wc.cell? ⟨gb546, 3, none⟩ = some (.string (⟨#[]⟩ : ByteArray)) := (blk_cell BK546.out 3).trans rfl
            have hfz16_0 := blk_frozen BK546.out 0
            have hfz16_1 := blk_frozen BK546.out 1
            have hfz16_2 := blk_frozen BK546.out 2
            have hfz16_3 := blk_frozen BK546.out 3
            go_wp2
            refine bodyPost_ret (results_cell_row rfl _ _ gb546 50 #[.int .i64 a0_0, .int .i64 a0_1, .float .f64 0, .string a0_3] (0, 0) _ rfl (by (with_reducible repeat (first | refine blk_drewN ?_ _ | refine blk_drew ?_ | refine blk_alloc ?_ _)); refine blk_put (cs := #[.int .i64 a0_0, .int .i64 a0_1, .float .f64 0, .string (⟨#[]⟩ : ByteArray)]) ?_ 3 _ rfl; (with_reducible repeat (first | refine blk_drewN ?_ _ | refine blk_drew ?_ | refine blk_alloc ?_ _)); refine blk_put (cs := #[.int .i64 a0_0, .int .i64 a0_1, .float .f64 0, .string (⟨#[]⟩ : ByteArray)]) ?_ 2 _ rfl; (with_reducible repeat (first | refine blk_drewN ?_ _ | refine blk_drew ?_ | refine blk_alloc ?_ _)); refine blk_put (cs := #[.int .i64 a0_0, .int .i64 0, .float .f64 0, .string (⟨#[]⟩ : ByteArray)]) ?_ 1 _ rfl; (with_reducible repeat (first | refine blk_drewN ?_ _ | refine blk_drew ?_ | refine blk_alloc ?_ _)); refine blk_put (cs := #[.int .i64 0, .int .i64 0, .float .f64 0, .string (⟨#[]⟩ : ByteArray)]) ?_ 0 _ rfl; (with_reducible repeat (first | refine blk_drewN ?_ _ | refine blk_drew ?_ | refine blk_alloc ?_ _)); refine blk_far ?_ NB546_545.out _; (with_reducible repeat (first | refine blk_drewN ?_ _ | refine blk_drew ?_ | refine blk_alloc ?_ _)); refine blk_far ?_ NB546_545.out _; (with_reducible repeat (first | refine blk_drewN ?_ _ | refine blk_drew ?_ | refine blk_alloc ?_ _)); exact BK546.out) Tryd.underlying50 rfl (by kernel_rfl)) rfl ?_
            exact ⟨by first | rfl | (simp [errW_none, errW_some] <;> rfl) | (simp [*, errW_none, errW_some] <;> rfl), by repeat (first | (with_reducible first | exact HB.out | apply below_alloc | apply pw_below_drewN | apply below_drew1 | refine below_set ?_ GE545.out | refine below_set ?_ GE546.out) | exact HB.out)⟩
          · rw [if_neg c13] at H
            have c13b0 : (feq 9221120237041090560 0) = false := by simpa using c13
            clear c13
            simp only [Option.some.injEq, Prod.mk.injEq] at H
            obtain ⟨rfl, rfl, rfl, rfl⟩ := H
            have hnb17 := NB545_546.out
            have hnc17 := NB546_545.out
            have hcz18_0 : wc.cell? ⟨gb545, 0, none⟩ = some (.int .i64 a0_0) := (blk_cell BK545.out 0).trans rfl
            have hcz18_1 : wc.cell? ⟨gb545, 1, none⟩ = some (.int .i64 a0_1) := (blk_cell BK545.out 1).trans rfl
            have hcz18_2 : wc.cell? ⟨gb545, 2, none⟩ = some (.float .f64 a0_2) := (blk_cell BK545.out 2).trans rfl
            have hcz18_3 : wc.cell? ⟨gb545, 3, none⟩ = some (.string a0_3) := (blk_cell BK545.out 3).trans rfl
            have hfz18_0 := blk_frozen BK545.out 0
            have hfz18_1 := blk_frozen BK545.out 1
            have hfz18_2 := blk_frozen BK545.out 2
            have hfz18_3 := blk_frozen BK545.out 3
            have hcz19_0 : wc.cell? ⟨gb546, 0, none⟩ = some (.int .i64 0) := (blk_cell BK546.out 0).trans rfl
            have hcz19_1 : wc.cell? ⟨gb546, 1, none⟩ = some (.int .i64 0) := (blk_cell BK546.out 1).trans rfl
            have hcz19_2 : wc.cell? ⟨gb546, 2, none⟩ = some (.float .f64 0) := (blk_cell BK546.out 2).trans rfl
            have hcz19_3 : wc.cell? ⟨gb546, 3, none⟩ = some (.string (⟨#[]⟩ : ByteArray)) := (blk_cell BK546.out 3).trans rfl
            have hfz19_0 := blk_frozen BK546.out 0
            have hfz19_1 := blk_frozen BK546.out 1
            have hfz19_2 := blk_frozen BK546.out 2
            have hfz19_3 := blk_frozen BK546.out 3
            go_wp2
            refine bodyPost_ret (results_cell_row rfl _ _ gb546 50 #[.int .i64 a0_0, .int .i64 a0_1, .float .f64 9221120237041090560, .string a0_3] (0, 0) _ rfl (by (with_reducible repeat (first | refine blk_drewN ?_ _ | refine blk_drew ?_ | refine blk_alloc ?_ _)); refine blk_put (cs := #[.int .i64 a0_0, .int .i64 a0_1, .float .f64 9221120237041090560, .string (⟨#[]⟩ : ByteArray)]) ?_ 3 _ rfl; (with_reducible repeat (first | refine blk_drewN ?_ _ | refine blk_drew ?_ | refine blk_alloc ?_ _)); refine blk_put (cs := #[.int .i64 a0_0, .int .i64 a0_1, .float .f64 0, .string (⟨#[]⟩ : ByteArray)]) ?_ 2 _ rfl; (with_reducible repeat (first | refine blk_drewN ?_ _ | refine blk_drew ?_ | refine blk_alloc ?_ _)); refine blk_put (cs := #[.int .i64 a0_0, .int .i64 0, .float .f64 0, .string (⟨#[]⟩ : ByteArray)]) ?_ 1 _ rfl; (with_reducible repeat (first | refine blk_drewN ?_ _ | refine blk_drew ?_ | refine blk_alloc ?_ _)); refine blk_put (cs := #[.int .i64 0, .int .i64 0, .float .f64 0, .string (⟨#[]⟩ : ByteArray)]) ?_ 0 _ rfl; (with_reducible repeat (first | refine blk_drewN ?_ _ | refine blk_drew ?_ | refine blk_alloc ?_ _)); refine blk_far ?_ NB546_545.out _; (with_reducible repeat (first | refine blk_drewN ?_ _ | refine blk_drew ?_ | refine blk_alloc ?_ _)); exact BK546.out) Tryd.underlying50 rfl (by kernel_rfl)) rfl ?_
            exact ⟨by first | rfl | (simp [errW_none, errW_some] <;> rfl) | (simp [*, errW_none, errW_some] <;> rfl), by repeat (first | (with_reducible first | exact HB.out | apply below_alloc | apply pw_below_drewN | apply below_drew1 | refine below_set ?_ GE545.out | refine below_set ?_ GE546.out) | exact HB.out)⟩
        · rw [if_neg c12] at H
          have c12b0 : (a0_0 == 3) = false := beq_eq_false_iff_ne.mpr c12
          have c12b1 : (a0_0 != 3) = true := bne_iff_ne.mpr c12
          simp only [Option.some.injEq, Prod.mk.injEq] at H
          obtain ⟨rfl, rfl, rfl, rfl⟩ := H
          have hnb20 := NB545_546.out
          have hnc20 := NB546_545.out
          have hcz21_0 : wc.cell? ⟨gb545, 0, none⟩ = some (.int .i64 a0_0) := (blk_cell BK545.out 0).trans rfl
          have hcz21_1 : wc.cell? ⟨gb545, 1, none⟩ = some (.int .i64 a0_1) := (blk_cell BK545.out 1).trans rfl
          have hcz21_2 : wc.cell? ⟨gb545, 2, none⟩ = some (.float .f64 a0_2) := (blk_cell BK545.out 2).trans rfl
          have hcz21_3 : wc.cell? ⟨gb545, 3, none⟩ = some (.string a0_3) := (blk_cell BK545.out 3).trans rfl
          have hfz21_0 := blk_frozen BK545.out 0
          have hfz21_1 := blk_frozen BK545.out 1
          have hfz21_2 := blk_frozen BK545.out 2
          have hfz21_3 := blk_frozen BK545.out 3
          have hcz22_0 : wc.cell? ⟨gb546, 0, none⟩ = some (.int .i64 0) := (blk_cell BK546.out 0).trans rfl
          have hcz22_1 : wc.cell? ⟨gb546, 1, none⟩ = some (.int .i64 0) := (blk_cell BK546.out 1).trans rfl
          have hcz22_2 : wc.cell? ⟨gb546, 2, none⟩ = some (.float .f64 0) := (blk_cell BK546.out 2).trans rfl
          have hcz22_3 : wc.cell? ⟨gb546, 3, none⟩ = some (.string (⟨#[]⟩ : ByteArray)) := (blk_cell BK546.out 3).trans rfl
          have hfz22_0 := blk_frozen BK546.out 0
          have hfz22_1 := blk_frozen BK546.out 1
          have hfz22_2 := blk_frozen BK546.out 2
          have hfz22_3 := blk_frozen BK546.out 3
          go_wp2
          refine bodyPost_ret (results_cell_row rfl _ _ gb546 50 #[.int .i64 a0_0, .int .i64 a0_1, .float .f64 9221120237041090560, .string a0_3] (0, 0) _ rfl (by (with_reducible repeat (first | refine blk_drewN ?_ _ | refine blk_drew ?_ | refine blk_alloc ?_ _)); refine blk_put (cs := #[.int .i64 a0_0, .int .i64 a0_1, .float .f64 9221120237041090560, .string (⟨#[]⟩ : ByteArray)]) ?_ 3 _ rfl; (with_reducible repeat (first | refine blk_drewN ?_ _ | refine blk_drew ?_ | refine blk_alloc ?_ _)); refine blk_put (cs := #[.int .i64 a0_0, .int .i64 a0_1, .float .f64 0, .string (⟨#[]⟩ : ByteArray)]) ?_ 2 _ rfl; (with_reducible repeat (first | refine blk_drewN ?_ _ | refine blk_drew ?_ | refine blk_alloc ?_ _)); refine blk_put (cs := #[.int .i64 a0_0, .int .i64 0, .float .f64 0, .string (⟨#[]⟩ : ByteArray)]) ?_ 1 _ rfl; (with_reducible repeat (first | refine blk_drewN ?_ _ | refine blk_drew ?_ | refine blk_alloc ?_ _)); refine blk_put (cs := #[.int .i64 0, .int .i64 0, .float .f64 0, .string (⟨#[]⟩ : ByteArray)]) ?_ 0 _ rfl; (with_reducible repeat (first | refine blk_drewN ?_ _ | refine blk_drew ?_ | refine blk_alloc ?_ _)); refine blk_far ?_ NB546_545.out _; (with_reducible repeat (first | refine blk_drewN ?_ _ | refine blk_drew ?_ | refine blk_alloc ?_ _)); exact BK546.out) Tryd.underlying50 rfl (by kernel_rfl)) rfl ?_
          exact ⟨by first | rfl | (simp [errW_none, errW_some] <;> rfl) | (simp [*, errW_none, errW_some] <;> rfl), by repeat (first | (with_reducible first | exact HB.out | apply below_alloc | apply pw_below_drewN | apply below_drew1 | refine below_set ?_ GE545.out | refine below_set ?_ GE546.out) | exact HB.out)⟩
      · replace c11 := Bool.eq_false_iff.mpr c11
        subst c11
        have H1 : (if a0_0 = 3 then (if (feq a0_2 0) = true then (some (a0_0, a0_1, 0, a0_3)) else (some (a0_0, a0_1, a0_2, a0_3))) else (some (a0_0, a0_1, a0_2, a0_3))) = some (r1, r2, r3, r4) := by rw [if_neg (show ¬ (false = true) by decide)] at H; exact H
        clear H
        have H := H1
        clear H1
        by_cases c23 : a0_0 = 3
        · rw [if_pos c23] at H
          have c23b0 : (a0_0 == 3) = true := beq_iff_eq.mpr c23
          have c23b1 : (a0_0 != 3) = false := bne_eq_false_iff_eq.mpr c23
          clear c23
          by_cases c24 : (feq a0_2 0) = true
          · rw [if_pos c24] at H
            have c24b0 : (feq a0_2 0) = true := c24
            clear c24
            simp only [Option.some.injEq, Prod.mk.injEq] at H
            obtain ⟨rfl, rfl, rfl, rfl⟩ := H
            have hnb25 := NB545_546.out
            have hnc25 := NB546_545.out
            have hcz26_0 : wc.cell? ⟨gb545, 0, none⟩ = some (.int .i64 a0_0) := (blk_cell BK545.out 0).trans rfl
            have hcz26_1 : wc.cell? ⟨gb545, 1, none⟩ = some (.int .i64 a0_1) := (blk_cell BK545.out 1).trans rfl
            have hcz26_2 : wc.cell? ⟨gb545, 2, none⟩ = some (.float .f64 a0_2) := (blk_cell BK545.out 2).trans rfl
            have hcz26_3 : wc.cell? ⟨gb545, 3, none⟩ = some (.string a0_3) := (blk_cell BK545.out 3).trans rfl
            have hfz26_0 := blk_frozen BK545.out 0
            have hfz26_1 := blk_frozen BK545.out 1
            have hfz26_2 := blk_frozen BK545.out 2
            have hfz26_3 := blk_frozen BK545.out 3
            have hcz27_0 : wc.cell? ⟨gb546, 0, none⟩ = some (.int .i64 0) := (blk_cell BK546.out 0).trans rfl
            have hcz27_1 : wc.cell? ⟨gb546, 1, none⟩ = some (.int .i64 0) := (blk_cell BK546.out 1).trans rfl
            have hcz27_2 : wc.cell? ⟨gb546, 2, none⟩ = some (.float .f64 0) := (blk_cell BK546.out 2).trans rfl
            have hcz27_3 : wc.cell? ⟨gb546, 3, none⟩ = some (.string (⟨#[]⟩ : ByteArray)) := (blk_cell BK546.out 3).trans rfl
            have hfz27_0 := blk_frozen BK546.out 0
            have hfz27_1 := blk_frozen BK546.out 1
            have hfz27_2 := blk_frozen BK546.out 2
            have hfz27_3 := blk_frozen BK546.out 3
            go_wp2
            refine bodyPost_ret (results_cell_row rfl _ _ gb546 50 #[.int .i64 a0_0, .int .i64 a0_1, .float .f64 0, .string a0_3] (0, 0) _ rfl (by (with_reducible repeat (first | refine blk_drewN ?_ _ | refine blk_drew ?_ | refine blk_alloc ?_ _)); refine blk_put (cs := #[.int .i64 a0_0, .int .i64 a0_1, .float .f64 0, .string (⟨#[]⟩ : ByteArray)]) ?_ 3 _ rfl; (with_reducible repeat (first | refine blk_drewN ?_ _ | refine blk_drew ?_ | refine blk_alloc ?_ _)); refine blk_put (cs := #[.int .i64 a0_0, .int .i64 a0_1, .float .f64 0, .string (⟨#[]⟩ : ByteArray)]) ?_ 2 _ rfl; (with_reducible repeat (first | refine blk_drewN ?_ _ | refine blk_drew ?_ | refine blk_alloc ?_ _)); refine blk_put (cs := #[.int .i64 a0_0, .int .i64 0, .float .f64 0, .string (⟨#[]⟩ : ByteArray)]) ?_ 1 _ rfl; (with_reducible repeat (first | refine blk_drewN ?_ _ | refine blk_drew ?_ | refine blk_alloc ?_ _)); refine blk_put (cs := #[.int .i64 0, .int .i64 0, .float .f64 0, .string (⟨#[]⟩ : ByteArray)]) ?_ 0 _ rfl; (with_reducible repeat (first | refine blk_drewN ?_ _ | refine blk_drew ?_ | refine blk_alloc ?_ _)); refine blk_far ?_ NB546_545.out _; (with_reducible repeat (first | refine blk_drewN ?_ _ | refine blk_drew ?_ | refine blk_alloc ?_ _)); exact BK546.out) Tryd.underlying50 rfl (by kernel_rfl)) rfl ?_
            exact ⟨by first | rfl | (simp [errW_none, errW_some] <;> rfl) | (simp [*, errW_none, errW_some] <;> rfl), by repeat (first | (with_reducible first | exact HB.out | apply below_alloc | apply pw_below_drewN | apply below_drew1 | refine below_set ?_ GE545.out | refine below_set ?_ GE546.out) | exact HB.out)⟩
          · rw [if_neg c24] at H
            have c24b0 : (feq a0_2 0) = false := by simpa using c24
            clear c24
            simp only [Option.some.injEq, Prod.mk.injEq] at H
            obtain ⟨rfl, rfl, rfl, rfl⟩ := H
            have hnb28 := NB545_546.out
            have hnc28 := NB546_545.out
            have hcz29_0 : wc.cell? ⟨gb545, 0, none⟩ = some (.int .i64 a0_0) := (blk_cell BK545.out 0).trans rfl
            have hcz29_1 : wc.cell? ⟨gb545, 1, none⟩ = some (.int .i64 a0_1) := (blk_cell BK545.out 1).trans rfl
            have hcz29_2 : wc.cell? ⟨gb545, 2, none⟩ = some (.float .f64 a0_2) := (blk_cell BK545.out 2).trans rfl
            have hcz29_3 : wc.cell? ⟨gb545, 3, none⟩ = some (.string a0_3) := (blk_cell BK545.out 3).trans rfl
            have hfz29_0 := blk_frozen BK545.out 0
            have hfz29_1 := blk_frozen BK545.out 1
            have hfz29_2 := blk_frozen BK545.out 2
            have hfz29_3 := blk_frozen BK545.out 3
            have hcz30_0 : wc.cell? ⟨gb546, 0, none⟩ = some (.int .i64 0) := (blk_cell BK546.out 0).trans rfl
            have hcz30_1 : wc.cell? ⟨gb546, 1, none⟩ = some (.int .i64 0) := (blk_cell BK546.out 1).trans rfl
            have hcz30_2 : wc.cell? ⟨gb546, 2, none⟩ = some (.float .f64 0) := (blk_cell BK546.out 2).trans rfl
            have hcz30_3 : wc.cell? ⟨gb546, 3, none⟩ = some (.string (⟨#[]⟩ : ByteArray)) := (blk_cell BK546.out 3).trans rfl
            have hfz30_0 := blk_frozen BK546.out 0
            have hfz30_1 := blk_frozen BK546.out 1
            have hfz30_2 := blk_frozen BK546.out 2
            have hfz30_3 := blk_frozen BK546.out 3
            go_wp2
            refine bodyPost_ret (results_cell_row rfl _ _ gb546 50 #[.int .i64 a0_0, .int .i64 a0_1, .float .f64 a0_2, .string a0_3] (0, 0) _ rfl (by (with_reducible repeat (first | refine blk_drewN ?_ _ | refine blk_drew ?_ | refine blk_alloc ?_ _)); refine blk_put (cs := #[.int .i64 a0_0, .int .i64 a0_1, .float .f64 a0_2, .string (⟨#[]⟩ : ByteArray)]) ?_ 3 _ rfl; (with_reducible repeat (first | refine blk_drewN ?_ _ | refine blk_drew ?_ | refine blk_alloc ?_ _)); refine blk_put (cs := #[.int .i64 a0_0, .int .i64 a0_1, .float .f64 0, .string (⟨#[]⟩ : ByteArray)]) ?_ 2 _ rfl; (with_reducible repeat (first | refine blk_drewN ?_ _ | refine blk_drew ?_ | refine blk_alloc ?_ _)); refine blk_put (cs := #[.int .i64 a0_0, .int .i64 0, .float .f64 0, .string (⟨#[]⟩ : ByteArray)]) ?_ 1 _ rfl; (with_reducible repeat (first | refine blk_drewN ?_ _ | refine blk_drew ?_ | refine blk_alloc ?_ _)); refine blk_put (cs := #[.int .i64 0, .int .i64 0, .float .f64 0, .string (⟨#[]⟩ : ByteArray)]) ?_ 0 _ rfl; (with_reducible repeat (first | refine blk_drewN ?_ _ | refine blk_drew ?_ | refine blk_alloc ?_ _)); exact BK546.out) Tryd.underlying50 rfl (by kernel_rfl)) rfl ?_
            exact ⟨by first | rfl | (simp [errW_none, errW_some] <;> rfl) | (simp [*, errW_none, errW_some] <;> rfl), by repeat (first | (with_reducible first | exact HB.out | apply below_alloc | apply pw_below_drewN | apply below_drew1 | refine below_set ?_ GE545.out | refine below_set ?_ GE546.out) | exact HB.out)⟩
        · rw [if_neg c23] at H
          have c23b0 : (a0_0 == 3) = false := beq_eq_false_iff_ne.mpr c23
          have c23b1 : (a0_0 != 3) = true := bne_iff_ne.mpr c23
          simp only [Option.some.injEq, Prod.mk.injEq] at H
          obtain ⟨rfl, rfl, rfl, rfl⟩ := H
          have hnb31 := NB545_546.out
          have hnc31 := NB546_545.out
          have hcz32_0 : wc.cell? ⟨gb545, 0, none⟩ = some (.int .i64 a0_0) := (blk_cell BK545.out 0).trans rfl
          have hcz32_1 : wc.cell? ⟨gb545, 1, none⟩ = some (.int .i64 a0_1) := (blk_cell BK545.out 1).trans rfl
          have hcz32_2 : wc.cell? ⟨gb545, 2, none⟩ = some (.float .f64 a0_2) := (blk_cell BK545.out 2).trans rfl
          have hcz32_3 : wc.cell? ⟨gb545, 3, none⟩ = some (.string a0_3) := (blk_cell BK545.out 3).trans rfl
          have hfz32_0 := blk_frozen BK545.out 0
          have hfz32_1 := blk_frozen BK545.out 1
          have hfz32_2 := blk_frozen BK545.out 2
          have hfz32_3 := blk_frozen BK545.out 3
          have hcz33_0 : wc.cell? ⟨gb546, 0, none⟩ = some (.int .i64 0) := (blk_cell BK546.out 0).trans rfl
          have hcz33_1 : wc.cell? ⟨gb546, 1, none⟩ = some (.int .i64 0) := (blk_cell BK546.out 1).trans rfl
          have hcz33_2 : wc.cell? ⟨gb546, 2, none⟩ = some (.float .f64 0) := (blk_cell BK546.out 2).trans rfl
          have hcz33_3 : wc.cell? ⟨gb546, 3, none⟩ = some (.string (⟨#[]⟩ : ByteArray)) := (blk_cell BK546.out 3).trans rfl
          have hfz33_0 := blk_frozen BK546.out 0
          have hfz33_1 := blk_frozen BK546.out 1
          have hfz33_2 := blk_frozen BK546.out 2
          have hfz33_3 := blk_frozen BK546.out 3
          go_wp2
          refine bodyPost_ret (results_cell_row rfl _ _ gb546 50 #[.int .i64 a0_0, .int .i64 a0_1, .float .f64 a0_2, .string a0_3] (0, 0) _ rfl (by (with_reducible repeat (first | refine blk_drewN ?_ _ | refine blk_drew ?_ | refine blk_alloc ?_ _)); refine blk_put (cs := #[.int .i64 a0_0, .int .i64 a0_1, .float .f64 a0_2, .string (⟨#[]⟩ : ByteArray)]) ?_ 3 _ rfl; (with_reducible repeat (first | refine blk_drewN ?_ _ | refine blk_drew ?_ | refine blk_alloc ?_ _)); refine blk_put (cs := #[.int .i64 a0_0, .int .i64 a0_1, .float .f64 0, .string (⟨#[]⟩ : ByteArray)]) ?_ 2 _ rfl; (with_reducible repeat (first | refine blk_drewN ?_ _ | refine blk_drew ?_ | refine blk_alloc ?_ _)); refine blk_put (cs := #[.int .i64 a0_0, .int .i64 0, .float .f64 0, .string (⟨#[]⟩ : ByteArray)]) ?_ 1 _ rfl; (with_reducible repeat (first | refine blk_drewN ?_ _ | refine blk_drew ?_ | refine blk_alloc ?_ _)); refine blk_put (cs := #[.int .i64 0, .int .i64 0, .float .f64 0, .string (⟨#[]⟩ : ByteArray)]) ?_ 0 _ rfl; (with_reducible repeat (first | refine blk_drewN ?_ _ | refine blk_drew ?_ | refine blk_alloc ?_ _)); exact BK546.out) Tryd.underlying50 rfl (by kernel_rfl)) rfl ?_
          exact ⟨by first | rfl | (simp [errW_none, errW_some] <;> rfl) | (simp [*, errW_none, errW_some] <;> rfl), by repeat (first | (with_reducible first | exact HB.out | apply below_alloc | apply pw_below_drewN | apply below_drew1 | refine below_set ?_ GE545.out | refine below_set ?_ GE546.out) | exact HB.out)⟩
end Go.Proofs.YtpiifdbicibelaaDoor.PA
end
section
namespace Go.Proofs.YtpiifdbicibelaaDoor.PA
open Go.RowKit Go.Proofs.YtpiifdbicibelaaDoorW.PrintWords Go.Proofs.YtpiifdbicibelaaDoorW.PrintLast Go.Proofs.YtpiifdbicibelaaDoorW.PrintMore
attribute [local go_sem] max2_int min2_int max_two min_two max_three min_three max_four min_four   -- for this text's walks alone
set_option linter.unusedVariables false
set_option linter.unusedSimpArgs false
mutual
def vellumlaw02_CodeBack.j2 : Nat → ByteArray → Option (Bool)
  | 0, _ => none
  | k + 1, x1 => (code_Decode.f k x1).bind fun bt561 => (if bt561.2 = 0 then ((code_Encode.f k bt561.1).bind fun bt565 => (if bt565.2 = 0 then (if bt565.1.toList = x1.toList then ((vellumlaw02_awake.f k).bind fun t567 => (some t567)) else (some false)) else (some false))) else (if (bt561.1.length : Int) = 0 then ((vellumlaw02_awake.f k).bind fun t568 => (some t568)) else (some false)))
def vellumlaw02_CodeBack.j0 : Nat → List (S50) → ByteArray → List (S50) → Bool → Option (Bool)
  | 0, _, _, _, _ => none
  | k + 1, x0, x1, x7, x34 => if x34 = true then (some false) else (vellumlaw02_CodeBack.l0 k x0 x1 x7 0)
def vellumlaw02_CodeBack.l0 : Nat → List (S50) → ByteArray → List (S50) → Int → Option (Bool)
  | 0, _, _, _, _ => none
  | k + 1, x0, x1, x7, x9 => if x9 < (x0.length : Int) then (if 0 ≤ x9 then (if x9 < (x7.length : Int) then ((vellumref01_Plain.f k ((rd_T50 x0 x9).f0) ((rd_T50 x0 x9).f1) ((rd_T50 x0 x9).f2) ((rd_T50 x0 x9).f3)).bind fun bt556 => ((vellumref01_Same.f ((rd_T50 x7 x9).f0) ((rd_T50 x7 x9).f1) ((rd_T50 x7 x9).f2) ((rd_T50 x7 x9).f3) bt556.1 bt556.2.1 bt556.2.2.1 bt556.2.2.2).bind fun t560 => (if t560 = true then (vellumlaw02_CodeBack.l0 k x0 x1 x7 (wrap64 (x9 + 1))) else (some false)))) else (none)) else (none)) else (vellumlaw02_CodeBack.j2 k x1)
end
def vellumlaw02_CodeBack.f (k : Nat) (l0 : List (S50)) (a1 : ByteArray) : Option (Bool) := (code_Encode.f k l0).bind fun bt548 => (if bt548.2 = 0 then ((code_Decode.f k bt548.1).bind fun bt550 => (if bt550.2 = 0 then (vellumlaw02_CodeBack.j0 k l0 a1 bt550.1 ((bt550.1.length : Int) != (l0.length : Int))) else (vellumlaw02_CodeBack.j0 k l0 a1 bt550.1 true))) else (vellumlaw02_CodeBack.j2 k a1))
def vellumlaw02_CodeBack.T9 : Bool × List (List Nat × List Nat) := (true, [([], []), ([], []), ([0, 1], [0, 1]), ([2], [2]), ([], []), ([], []), ([4, 5], [4, 5]), ([6], [6]), ([7], [7]), ([3, 8, 8], [3, 8]), ([9], [9])])
def vellumlaw02_CodeBack.B9 : List Nat := [0, 0, 3, 7, 0, 0, 48, 112, 240, 511, 1023]
theorem vellumlaw02_CodeBack.tab9 : rtab .any (opsOf Tryd.f9 9) = vellumlaw02_CodeBack.T9 := by kernel_rfl
theorem vellumlaw02_CodeBack.bits9 : waitsOk vellumlaw02_CodeBack.T9.2 vellumlaw02_CodeBack.B9 = true := by kernel_rfl
set_option maxHeartbeats 8000000 in
set_option maxRecDepth 100000 in
theorem vellumlaw02_CodeBack.calls (k : Nat) (A0 : Option Addr) (c0 : Nat) (l0 : List (S50)) (a1 : ByteArray) (r : Bool) (w : World) (hr0 : Kd.C k50 w A0 l0.length l0) (hc0 : l0.length ≤ c0) (hG : Glob w) (h : vellumlaw02_CodeBack.f k l0 a1 = some r) :
    Calls Tryd.prog 9 #[.slice A0 l0.length c0, .string a1] w fun e w' => e = .returned (.bool r) ∧ Below w.heap.size w w' := by
  have hu50 := Tryd.underlying50
  have HR0 := Aside0.mk hr0
  have HC0 := Aside0.mk hc0
  clear hr0 hc0
  have HG := Aside0.mk hG
  clear hG
  have HB := Aside0.mk (Below.refl w.heap.size w)
  have H : ((code_Encode.f k l0).bind fun bt548 => (if bt548.2 = 0 then ((code_Decode.f k bt548.1).bind fun bt550 => (if bt550.2 = 0 then (vellumlaw02_CodeBack.j0 k l0 a1 bt550.1 ((bt550.1.length : Int) != (l0.length : Int))) else (vellumlaw02_CodeBack.j0 k l0 a1 bt550.1 true))) else (vellumlaw02_CodeBack.j2 k a1))) = some r := h
  clear h
  replace H := Option.bind_eq_some_iff.mp H
  obtain ⟨⟨t548, t549⟩, A30, H⟩ := H
  replace H : (if t549 = 0 then ((code_Decode.f k t548).bind fun bt550 => (if bt550.2 = 0 then (vellumlaw02_CodeBack.j0 k l0 a1 bt550.1 ((bt550.1.length : Int) != (l0.length : Int))) else (vellumlaw02_CodeBack.j0 k l0 a1 bt550.1 true))) else (vellumlaw02_CodeBack.j2 k a1)) = some r := H
  have A3 := Aside0.mk A30
  clear A30
  have HC4 := Aside0.mk H
  clear H
  go_enter Tryd.func9, Tryd.ntmps9
  go_upto_if 20 with (first | ((with_reducible refine gate_callee (f := 21) rfl ?_); refine goesL_ (some 16) rfl rfl Tryd.func21 (by kernel_rfl) rfl #[.slice A0 l0.length c0] rfl (by (try simp only [List.map_toArray, List.map_cons, List.map_nil]); first | done | rfl | (simp only [List.length_drop, List.length_take]; rfl)) ?_; (with_reducible refine (code_Encode.calls k _ _ l0 t548 t549 _ ?side1 ?side2 ?side3 A3.out).mono ?_); (case side1 => repeat (first | exact HR0.out | (with_reducible refine Kd.C_alloc ?_ _) | (with_reducible refine Kd.C_drewN ?_ _) | (with_reducible refine Kd.C_drew ?_))); (case side2 => exact HC0.out); (case side3 => exact Glob.below HG.out (by repeat (first | (with_reducible first | exact HB.out | apply below_alloc | apply pw_below_drewN | apply below_drew1) | exact HB.out))); rintro e w5 ⟨rfl, hb⟩; refine ⟨_, rfl, ?_⟩; have n0_ := Aside0.mk (below_step (by repeat (first | (with_reducible first | exact HB.out | apply below_alloc | apply pw_below_drewN | apply below_drew1) | exact HB.out)) hb); clear HB; have HB := n0_; clear n0_; (try clear hb); (try clear hb2); (try clear hk); (try clear hi)))
  (try simp only [Act.put, List.setIfInBounds_toArray, List.set_cons_zero, List.set_cons_succ])
  go_cut [] (fun wc => ∃ (kq : Nat), Aside0 (vellumlaw02_CodeBack.j2 kq a1 = some r) ∧ Aside0 (kq ≤ k) ∧ Aside0 (Below w.heap.size w wc))
  case first =>
    have H := HC4.out
    clear HC4
    by_cases c6 : t549 = 0
    · rw [if_pos c6] at H
      have c6b0 : (t549 == 0) = true := beq_iff_eq.mpr c6
      have c6b1 : (t549 != 0) = false := bne_eq_false_iff_eq.mpr c6
      clear c6
      (first | rw [c6b0] | (simp only [i64_w, i32_w]; rw [c6b0]) | skip)
      replace H := Option.bind_eq_some_iff.mp H
      obtain ⟨⟨t550, t551⟩, A70, H⟩ := H
      replace H : (if t551 = 0 then (vellumlaw02_CodeBack.j0 k l0 a1 t550 ((t550.length : Int) != (l0.length : Int))) else (vellumlaw02_CodeBack.j0 k l0 a1 t550 true)) = some r := H
      have A7 := Aside0.mk A70
      clear A70
      have HC8 := Aside0.mk H
      clear H
      go_upto_region 4 with (first | ((with_reducible refine gate_callee (f := 43) rfl ?_); refine goesL_ (some 23) rfl rfl Tryd.func43 (by kernel_rfl) rfl #[.string t548] rfl (by (try simp only [List.map_toArray, List.map_cons, List.map_nil]); first | done | rfl | (simp only [List.length_drop, List.length_take]; rfl)) ?_; (with_reducible refine (code_Decode.calls k t548 t550 t551 _ ?side1 A7.out).mono ?_); (case side1 => exact Glob.below HG.out (by repeat (first | (with_reducible first | exact HB.out | apply below_alloc | apply pw_below_drewN | apply below_drew1) | exact HB.out))); rintro e w9 ⟨v552, rfl, ho0, hb⟩; refine ⟨_, rfl, ?_⟩; have n0_ := Aside0.mk (Kd.R_lower ho0 (below_size (by repeat (first | (with_reducible first | exact HB.out | apply below_alloc | apply pw_below_drewN | apply below_drew1) | exact HB.out)))); have n1_ := Aside0.mk (below_step (by repeat (first | (with_reducible first | exact HB.out | apply below_alloc | apply pw_below_drewN | apply below_drew1) | exact HB.out)) hb); clear HB; have HO553 := n0_; have HB := n1_; clear n0_ n1_; (try clear hb); (try clear hb2); (try clear hk); (try clear hi); (try clear ho0)))
      (try simp only [Act.put, List.setIfInBounds_toArray, List.set_cons_zero, List.set_cons_succ])
      go_cut [34] (fun v34 wc => ∃ (kq : Nat) (x34_7 : Bool), v34 = .bool x34_7 ∧ Aside0 (vellumlaw02_CodeBack.j0 kq l0 a1 t550 x34_7 = some r) ∧ Aside0 (kq ≤ k) ∧ Aside0 (Kd.R k50 50 wc w.heap.size (fun _ => True) v552 t550) ∧ Aside0 (Below w.heap.size w wc))
      case first =>
        have H := HC8.out
        clear HC8
        by_cases c10 : t551 = 0
        · rw [if_pos c10] at H
          have c10b0 : (t551 == 0) = true := beq_iff_eq.mpr c10
          have c10b1 : (t551 != 0) = false := bne_eq_false_iff_eq.mpr c10
          clear c10
          (first | rw [c10b0] | (simp only [i64_w, i32_w]; rw [c10b0]) | skip)
          have H' := Aside0.mk H
          clear H
          obtain ⟨Ao11, co11, eo11⟩ := Kd.R_slice HO553.out
          subst eo11
          go_wp2
          go_meet
          case rel => exact ⟨_, (((t550.length : Int) != (l0.length : Int))), (by first | rfl | (simp; done) | (simp [*]; done) | (simp [bool_ne_nil]; done) | (simp; exact bool_ne_nil _)), H', ⟨by first | omega | exact Nat.le_refl _⟩, ⟨by (with_reducible repeat (first | apply Kd.R_alloc | apply Kd.R_drewN | apply Kd.R_drew)); exact HO553.out⟩, ⟨by repeat (first | (with_reducible first | exact HB.out | apply below_alloc | apply pw_below_drewN | apply below_drew1) | exact HB.out)⟩⟩
        · rw [if_neg c10] at H
          have c10b0 : (t551 == 0) = false := beq_eq_false_iff_ne.mpr c10
          have c10b1 : (t551 != 0) = true := bne_iff_ne.mpr c10
          (first | rw [c10b0] | (simp only [i64_w, i32_w]; rw [c10b0]) | skip)
          have H' := Aside0.mk H
          clear H
          go_wp2
          go_meet
          case rel => exact ⟨_, (true), (by first | rfl | (simp; done) | (simp [*]; done) | (simp [bool_ne_nil]; done) | (simp; exact bool_ne_nil _)), H', ⟨by first | omega | exact Nat.le_refl _⟩, ⟨by (with_reducible repeat (first | apply Kd.R_alloc | apply Kd.R_drewN | apply Kd.R_drew)); exact HO553.out⟩, ⟨by repeat (first | (with_reducible first | exact HB.out | apply below_alloc | apply pw_below_drewN | apply below_drew1) | exact HB.out)⟩⟩
      case rest =>
        clear HC8
        try clear c1
        try clear c2
        try clear p2
        try clear c4
        try clear c6
        try clear c6b0
        try clear c6b1
        try clear c9
        try clear c10
        try clear c10b0
        try clear c10b1
        obtain ⟨kq, x34_7, rfl, HA, HJ7, HO_7, HB⟩ := hcut
        cases kq with
        | zero => exact absurd HA.out (by simp [vellumlaw02_CodeBack.j0])
        | succ kj7 =>
          have H := HA.out
          clear HA
          simp only [vellumlaw02_CodeBack.j0] at H
          by_cases c12 : x34_7 = true
          · subst c12
            have H1 : (some false) = some r := by rw [if_pos rfl] at H; exact H
            clear H
            have H := H1
            clear H1
            obtain rfl := Option.some.inj H
            go_wp2
            go_ret
            exact ⟨by first | rfl | (simp [errW_none, errW_some] <;> rfl) | (simp [*, errW_none, errW_some] <;> rfl), by repeat (first | (with_reducible first | exact HB.out | apply below_alloc | apply pw_below_drewN | apply below_drew1) | exact HB.out)⟩
          · replace c12 := Bool.eq_false_iff.mpr c12
            subst c12
            have H1 : (vellumlaw02_CodeBack.l0 kj7 l0 a1 t550 0) = some r := by rw [if_neg (show ¬ (false = true) by decide)] at H; exact H
            clear H
            have H := H1
            clear H1
            have H' := Aside0.mk H
            clear H
            go_wp2
            go_loopg [9] kj7 (fun kq v9 w' => ∃ (x9_2 : Int), v9 = .int .i64 x9_2 ∧ Aside0 (vellumlaw02_CodeBack.l0 kq l0 a1 t550 x9_2 = some r) ∧ Aside0 (kq ≤ kj7) ∧ Aside0 (Kd.R k50 50 w' w.heap.size (fun _ => True) v552 t550) ∧ Aside0 (Below w.heap.size w w'))
            case atStart => exact ⟨(0), (by first | rfl | (simp; done) | (simp [*]; done) | (simp [bool_ne_nil]; done) | (simp; exact bool_ne_nil _)), H', ⟨Nat.le_refl _⟩, ⟨by (with_reducible repeat (first | apply Kd.R_alloc | apply Kd.R_drewN | apply Kd.R_drew)); exact HO_7.out⟩, ⟨by repeat (first | (with_reducible first | exact HB.out | apply below_alloc | apply pw_below_drewN | apply below_drew1) | exact HB.out)⟩⟩
            case round =>
              clear H'
              try clear c1
              try clear c2
              try clear p2
              try clear c4
              try clear c6
              try clear c6b0
              try clear c6b1
              try clear c9
              try clear c10
              try clear c10b0
              try clear c10b1
              try clear c12
              try clear p2
              obtain ⟨x9_2, rfl, HA, HK2, HO_7, HB⟩ := hrel
              cases gk with
              | zero => exact absurd HA.out (by simp [vellumlaw02_CodeBack.l0])
              | succ k2 =>
                have H := HA.out
                clear HA
                simp only [vellumlaw02_CodeBack.l0] at H
                by_cases c13 : x9_2 < (l0.length : Int)
                · rw [if_pos c13] at H
                  have c13b0 : decide (x9_2 < (l0.length : Int)) = true := decide_eq_true c13
                  clear c13
                  by_cases c14 : 0 ≤ x9_2
                  · rw [if_pos c14] at H
                    have c14b0 : decide (0 ≤ x9_2) = true := decide_eq_true c14
                    clear c14
                    by_cases c15 : x9_2 < (t550.length : Int)
                    · rw [if_pos c15] at H
                      have c15b0 : decide (x9_2 < (t550.length : Int)) = true := decide_eq_true c15
                      clear c15
                      replace H := Option.bind_eq_some_iff.mp H
                      obtain ⟨⟨t556, t557, t558, t559⟩, A160, H⟩ := H
                      replace H : ((vellumref01_Same.f ((rd_T50 t550 x9_2).f0) ((rd_T50 t550 x9_2).f1) ((rd_T50 t550 x9_2).f2) ((rd_T50 t550 x9_2).f3) t556 t557 t558 t559).bind fun t560 => (if t560 = true then (vellumlaw02_CodeBack.l0 k2 l0 a1 t550 (wrap64 (x9_2 + 1))) else (some false))) = some r := H
                      have A16 := Aside0.mk A160
                      clear A160
                      replace H := Option.bind_eq_some_iff.mp H
                      obtain ⟨t560, A170, H⟩ := H
                      replace H : (if t560 = true then (vellumlaw02_CodeBack.l0 k2 l0 a1 t550 (wrap64 (x9_2 + 1))) else (some false)) = some r := H
                      have A17 := Aside0.mk A170
                      clear A170
                      by_cases c18 : t560 = true
                      · subst c18
                        have H1 : (vellumlaw02_CodeBack.l0 k2 l0 a1 t550 (wrap64 (x9_2 + 1))) = some r := by rw [if_pos rfl] at H; exact H
                        clear H
                        have H := H1
                        clear H1
                        have H' := Aside0.mk H
                        clear H
                        try go_wp2
                        have n0_ := Aside0.mk (Kd.R_drew HO_7.out)
                        have n1_ := Aside0.mk (below_drew1 HB.out)
                        clear HO_7
                        clear HB
                        have HO_7 := n0_
                        have HB := n1_
                        clear n0_ n1_
                        obtain ⟨Ao20, co20, eo20⟩ := Kd.R_slice HO_7.out
                        (first | subst eo20 | (injection eo20 with f1_ f2_ f3_; have f4_ := f1_.symm; have f5_ := f3_.symm; clear f1_ f2_ f3_; subst f4_; subst f5_))
                        have p554 : 0 ≤ (x9_2 : Int) := of_decide_eq_true (by first | (with_reducible assumption) | assumption)
                        have q554 : x9_2 < (t550.length : Int) := of_decide_eq_true (by first | (with_reducible assumption) | assumption)
                        obtain ⟨ad554, e554, hx554_0, hx554_1, hx554_2, hx554_3⟩ := at_T50 (Kd.R_reads' HO_7.out).2.2 x9_2 p554 q554
                        cases e554
                        replace p554 := eq_true p554
                        replace q554 := eq_true q554
                        have p555 : 0 ≤ (x9_2 : Int) := of_decide_eq_true (by first | (with_reducible assumption) | assumption)
                        have q555 : x9_2 < (l0.length : Int) := of_decide_eq_true (by first | (with_reducible assumption) | assumption)
                        obtain ⟨ad555, e555, hx555_0, hx555_1, hx555_2, hx555_3⟩ := at_T50 HR0.out x9_2 p555 q555
                        have hw555_3 := hx555_3
                        have hw555_2 := hx555_2
                        have hw555_1 := hx555_1
                        have hw555_0 := hx555_0
                        cases e555
                        replace hx555_0 := (HB.out.cell (World.block_lt_of_cell? w _ hx555_0)).trans hx555_0
                        replace hx555_1 := (HB.out.cell (World.block_lt_of_cell? w _ hx555_1)).trans hx555_1
                        replace hx555_2 := (HB.out.cell (World.block_lt_of_cell? w _ hx555_2)).trans hx555_2
                        replace hx555_3 := (HB.out.cell (World.block_lt_of_cell? w _ hx555_3)).trans hx555_3
                        replace p555 := eq_true p555
                        replace q555 := eq_true q555
                        refine start_ (n := 11) (S := fun w' => w'.cell? (ad554.add ((x9_2).toNat * 4)) = some (.int .i64 ((rd_T50 t550 x9_2).f0)) ∧ w'.cell? ⟨(ad554.add ((x9_2).toNat * 4)).block, (ad554.add ((x9_2).toNat * 4)).off + 1, none⟩ = some (.int .i64 ((rd_T50 t550 x9_2).f1)) ∧ w'.cell? ⟨(ad554.add ((x9_2).toNat * 4)).block, (ad554.add ((x9_2).toNat * 4)).off + 2, none⟩ = some (.float .f64 ((rd_T50 t550 x9_2).f2)) ∧ w'.cell? ⟨(ad554.add ((x9_2).toNat * 4)).block, (ad554.add ((x9_2).toNat * 4)).off + 3, none⟩ = some (.string ((rd_T50 t550 x9_2).f3)) ∧ w'.cell? (ad555.add ((x9_2).toNat * 4)) = some (.int .i64 ((rd_T50 l0 x9_2).f0)) ∧ w'.cell? ⟨(ad555.add ((x9_2).toNat * 4)).block, (ad555.add ((x9_2).toNat * 4)).off + 1, none⟩ = some (.int .i64 ((rd_T50 l0 x9_2).f1)) ∧ w'.cell? ⟨(ad555.add ((x9_2).toNat * 4)).block, (ad555.add ((x9_2).toNat * 4)).off + 2, none⟩ = some (.float .f64 ((rd_T50 l0 x9_2).f2)) ∧ w'.cell? ⟨(ad555.add ((x9_2).toNat * 4)).block, (ad555.add ((x9_2).toNat * 4)).off + 3, none⟩ = some (.string ((rd_T50 l0 x9_2).f3))) (ds := []) #[false, false, false, false, false, false, false, false, false, false, false] (by kernel_rfl) rfl rfl ⟨hx554_0, hx554_1, hx554_2, hx554_3, ((HB.out.cell (World.block_lt_of_cell? w _ hw555_0)).trans hw555_0), ((HB.out.cell (World.block_lt_of_cell? w _ hw555_1)).trans hw555_1), ((HB.out.cell (World.block_lt_of_cell? w _ hw555_2)).trans hw555_2), ((HB.out.cell (World.block_lt_of_cell? w _ hw555_3)).trans hw555_3)⟩ (fun hHeld => ?_); refine with_tabW vellumlaw02_CodeBack.tab9 vellumlaw02_CodeBack.bits9 (fun HT_ HW_ => ?_)
                        generalize wr.drew = w19 at HO_7 HB hx554_0 hx554_1 hx554_2 hx554_3 hx555_0 hx555_1 hx555_2 hx555_3 hHeld ⊢
                        refine pure_ (i := 0) (N := some 41) (v := ?_) (a' := ?_) #[true, false, false, false, false, false, false, false, false, false, false] rfl rfl (any_of HT_.out (by kernel_rfl)) (fun _ _ _ h => h) (Or.inl ⟨by rfl, ?_⟩) ?_ ?_
                        rotate_left
                        · intro w'
                          go_simp
                          with_reducible rfl
                        rotate_left
                        · simp only [Act.put, List.setIfInBounds_toArray, List.set_cons_zero, List.set_cons_succ, i64_w, i32_w]
                          rfl
                        refine pure_ (i := 1) (N := some 42) (v := ?_) (a' := ?_) #[true, true, false, false, false, false, false, false, false, false, false] rfl rfl (any_of HT_.out (by kernel_rfl)) (fun _ _ _ h => h) (Or.inl ⟨by rfl, ?_⟩) ?_ ?_
                        rotate_left
                        · intro w'
                          go_simp
                          with_reducible rfl
                        rotate_left
                        · simp only [Act.put, List.setIfInBounds_toArray, List.set_cons_zero, List.set_cons_succ, i64_w, i32_w]
                          rfl
                        refine pure_ (i := 2) (N := some 43) (v := ?_) (a' := ?_) #[true, true, true, false, false, false, false, false, false, false, false] rfl rfl (any_of HT_.out (by kernel_rfl)) (fun _ _ _ h => h) (Or.inl ⟨by rfl, ?_⟩) ?_ ?_
                        rotate_left
                        · intro w'
                          go_simp
                          with_reducible rfl
                        rotate_left
                        · simp only [Act.put, List.setIfInBounds_toArray, List.set_cons_zero, List.set_cons_succ, i64_w, i32_w]
                          rfl
                        refine pure_ (i := 4) (N := some 45) (v := ?_) (a' := ?_) #[true, true, true, false, true, false, false, false, false, false, false] rfl rfl (any_of HT_.out (by kernel_rfl)) (fun _ _ _ h => h) (Or.inl ⟨by rfl, ?_⟩) ?_ ?_
                        rotate_left
                        · intro w'
                          go_simp
                          with_reducible rfl
                        rotate_left
                        · simp only [Act.put, List.setIfInBounds_toArray, List.set_cons_zero, List.set_cons_succ, i64_w, i32_w]
                          rfl
                        refine pure_ (i := 5) (N := some 46) (v := ?_) (a' := ?_) #[true, true, true, false, true, true, false, false, false, false, false] rfl rfl (any_of HT_.out (by kernel_rfl)) (fun _ _ _ h => h) (Or.inl ⟨by rfl, ?_⟩) ?_ ?_
                        rotate_left
                        · intro w'
                          go_simp
                          with_reducible rfl
                        rotate_left
                        · simp only [Act.put, List.setIfInBounds_toArray, List.set_cons_zero, List.set_cons_succ, i64_w, i32_w]
                          rfl
                        refine pure_ (i := 6) (N := some 47) (v := ?_) (a' := ?_) #[true, true, true, false, true, true, true, false, false, false, false] rfl rfl (any_of HT_.out (by kernel_rfl)) (fun _ _ _ h => h) (Or.inl ⟨by rfl, ?_⟩) ?_ ?_
                        rotate_left
                        · intro w'
                          go_simp
                          with_reducible rfl
                        rotate_left
                        · simp only [Act.put, List.setIfInBounds_toArray, List.set_cons_zero, List.set_cons_succ, i64_w, i32_w]
                          rfl
                        refine take_ (i := 3) (N := some 44) (v := ?_) (a' := ?_) #[true, true, true, true, true, true, true, false, false, false, false] rfl rfl (take_ofW HT_.out HW_.out (by kernel_rfl)) (fun _ _ _ h => h) (Or.inl ⟨by rfl, ?_⟩) hHeld ?_ ?_
                        rotate_left
                        · rintro w' ⟨s0, s1, s2, s3, s4, s5, s6, s7⟩
                          go_simp
                          with_reducible rfl
                        rotate_left
                        · simp only [Act.put, List.setIfInBounds_toArray, List.set_cons_zero, List.set_cons_succ, i64_w, i32_w]
                          rfl
                        refine take_ (i := 7) (N := some 48) (v := ?_) (a' := ?_) #[true, true, true, true, true, true, true, true, false, false, false] rfl rfl (take_ofW HT_.out HW_.out (by kernel_rfl)) (fun _ _ _ h => h) (Or.inl ⟨by rfl, ?_⟩) hHeld ?_ ?_
                        rotate_left
                        · rintro w' ⟨s0, s1, s2, s3, s4, s5, s6, s7⟩
                          go_simp
                          with_reducible rfl
                        rotate_left
                        · simp only [Act.put, List.setIfInBounds_toArray, List.set_cons_zero, List.set_cons_succ, i64_w, i32_w]
                          rfl
                        refine one_ (i := 8) (N := some 49) #[true, true, true, true, true, true, true, true, true, false, false] rfl rfl (one_of HT_.out (by kernel_rfl)) (by decide) (fun K hK => ?_)
                        refine goes_ Tryd.func47 (by kernel_rfl) rfl #[.agg #[.int .i64 ((rd_T50 l0 x9_2).f0), .int .i64 ((rd_T50 l0 x9_2).f1), .float .f64 ((rd_T50 l0 x9_2).f2), .string ((rd_T50 l0 x9_2).f3)]] (by rfl) rfl rfl (by (try simp only [List.map_toArray, List.map_cons, List.map_nil]); first | done | rfl | (simp only [List.length_drop, List.length_take]; rfl)) ?_
                        with_reducible refine (vellumref01_Plain.calls k2 ((rd_T50 l0 x9_2).f0) ((rd_T50 l0 x9_2).f1) ((rd_T50 l0 x9_2).f2) ((rd_T50 l0 x9_2).f3) t556 t557 t558 t559 _ A16.out).mono ?_
                        rintro e w21 ⟨rfl, hb⟩
                        have HS0_ := (hb.cell (World.block_lt_of_cell? _ _ (hHeld.1))).trans (hHeld.1)
                        have HS1_ := (hb.cell (World.block_lt_of_cell? _ _ (hHeld.2.1))).trans (hHeld.2.1)
                        have HS2_ := (hb.cell (World.block_lt_of_cell? _ _ (hHeld.2.2.1))).trans (hHeld.2.2.1)
                        have HS3_ := (hb.cell (World.block_lt_of_cell? _ _ (hHeld.2.2.2.1))).trans (hHeld.2.2.2.1)
                        refine ⟨_, rfl, ?_⟩
                        have n0_ := Aside0.mk (Kd.R_below (by (with_reducible repeat (first | apply Kd.R_alloc | apply Kd.R_drewN | apply Kd.R_drew)); exact HO_7.out) hb)
                        have n1_ := Aside0.mk (below_step (by repeat (first | (with_reducible first | exact HB.out | apply below_alloc | apply pw_below_drewN | apply below_drew1) | exact HB.out)) hb)
                        clear HO_7
                        clear HB
                        have HO_7 := n0_
                        have HB := n1_
                        clear n0_ n1_
                        (try clear hb)
                        (try clear hb2)
                        (try clear hk)
                        (try clear hi)
                        refine hK.out _ _ ⟨HS0_, HS1_, HS2_, HS3_, ((HB.out.cell (World.block_lt_of_cell? w _ hw555_0)).trans hw555_0), ((HB.out.cell (World.block_lt_of_cell? w _ hw555_1)).trans hw555_1), ((HB.out.cell (World.block_lt_of_cell? w _ hw555_2)).trans hw555_2), ((HB.out.cell (World.block_lt_of_cell? w _ hw555_3)).trans hw555_3)⟩ (fun hHeld => ?_)
                        clear hK K
                        refine norm_ (a' := ?_) ?_ ?_
                        rotate_left
                        · show Act.put _ (some 49) _ = _
                          simp only [Act.put, List.setIfInBounds_toArray, List.set_cons_zero, List.set_cons_succ, i64_w, i32_w]
                          rfl
                        refine one_ (i := 9) (N := some 50) #[true, true, true, true, true, true, true, true, true, true, false] rfl rfl (one_of HT_.out (by kernel_rfl)) (by decide) (fun K hK => ?_)
                        refine goes_ Tryd.func46 (by kernel_rfl) rfl #[.agg #[.int .i64 ((rd_T50 t550 x9_2).f0), .int .i64 ((rd_T50 t550 x9_2).f1), .float .f64 ((rd_T50 t550 x9_2).f2), .string ((rd_T50 t550 x9_2).f3)], .agg #[.int .i64 t556, .int .i64 t557, .float .f64 t558, .string t559]] (by rfl) rfl rfl (by (try simp only [List.map_toArray, List.map_cons, List.map_nil]); first | done | rfl | (simp only [List.length_drop, List.length_take]; rfl)) ?_
                        with_reducible refine (vellumref01_Same.calls ((rd_T50 t550 x9_2).f0) ((rd_T50 t550 x9_2).f1) ((rd_T50 t550 x9_2).f2) ((rd_T50 t550 x9_2).f3) t556 t557 t558 t559 true _ A17.out).mono ?_
                        rintro e w22 ⟨rfl, hb⟩
                        have HS0_ := (hb.cell (World.block_lt_of_cell? _ _ (hHeld.1))).trans (hHeld.1)
                        have HS1_ := (hb.cell (World.block_lt_of_cell? _ _ (hHeld.2.1))).trans (hHeld.2.1)
                        have HS2_ := (hb.cell (World.block_lt_of_cell? _ _ (hHeld.2.2.1))).trans (hHeld.2.2.1)
                        have HS3_ := (hb.cell (World.block_lt_of_cell? _ _ (hHeld.2.2.2.1))).trans (hHeld.2.2.2.1)
                        refine ⟨_, rfl, ?_⟩
                        have n0_ := Aside0.mk (Kd.R_below (by (with_reducible repeat (first | apply Kd.R_alloc | apply Kd.R_drewN | apply Kd.R_drew)); exact HO_7.out) hb)
                        have n1_ := Aside0.mk (below_step (by repeat (first | (with_reducible first | exact HB.out | apply below_alloc | apply pw_below_drewN | apply below_drew1) | exact HB.out)) hb)
                        clear HO_7
                        clear HB
                        have HO_7 := n0_
                        have HB := n1_
                        clear n0_ n1_
                        (try clear hb)
                        (try clear hb2)
                        (try clear hk)
                        (try clear hi)
                        refine hK.out _ _ ⟨HS0_, HS1_, HS2_, HS3_, ((HB.out.cell (World.block_lt_of_cell? w _ hw555_0)).trans hw555_0), ((HB.out.cell (World.block_lt_of_cell? w _ hw555_1)).trans hw555_1), ((HB.out.cell (World.block_lt_of_cell? w _ hw555_2)).trans hw555_2), ((HB.out.cell (World.block_lt_of_cell? w _ hw555_3)).trans hw555_3)⟩ (fun hHeld => ?_)
                        clear hK K
                        refine norm_ (a' := ?_) ?_ ?_
                        rotate_left
                        · show Act.put _ (some 50) _ = _
                          simp only [Act.put, List.setIfInBounds_toArray, List.set_cons_zero, List.set_cons_succ, i64_w, i32_w]
                          rfl
                        refine pure_ (i := 10) (N := some 51) (v := ?_) (a' := ?_) #[true, true, true, true, true, true, true, true, true, true, true] rfl rfl (any_of HT_.out (by kernel_rfl)) (fun _ _ _ h => h) (Or.inl ⟨by rfl, ?_⟩) ?_ ?_
                        rotate_left
                        · intro w'
                          go_simp
                          with_reducible rfl
                        rotate_left
                        · simp only [Act.put, List.setIfInBounds_toArray, List.set_cons_zero, List.set_cons_succ, i64_w, i32_w]
                          rfl
                        refine done_ (done_of HT_.out (by kernel_rfl)) ?_
                        try go_wp2
                        go_roundg k2
                        case measure => have := HJ7.out; have := HK2.out; omega
                        case rel => exact ⟨(wrap64 (x9_2 + 1)), (by first | rfl | (simp; done) | (simp [*]; done) | (simp [bool_ne_nil]; done) | (simp; exact bool_ne_nil _)), H', ⟨by have := HJ7.out; have := HK2.out; omega⟩, ⟨by (with_reducible repeat (first | apply Kd.R_alloc | apply Kd.R_drewN | apply Kd.R_drew)); exact HO_7.out⟩, ⟨by repeat (first | (with_reducible first | exact HB.out | apply below_alloc | apply pw_below_drewN | apply below_drew1) | exact HB.out)⟩⟩
                      · replace c18 := Bool.eq_false_iff.mpr c18
                        subst c18
                        have H1 : (some false) = some r := by rw [if_neg (show ¬ (false = true) by decide)] at H; exact H
                        clear H
                        have H := H1
                        clear H1
                        obtain rfl := Option.some.inj H
                        try go_wp2
                        have n0_ := Aside0.mk (Kd.R_drew HO_7.out)
                        have n1_ := Aside0.mk (below_drew1 HB.out)
                        clear HO_7
                        clear HB
                        have HO_7 := n0_
                        have HB := n1_
                        clear n0_ n1_
                        obtain ⟨Ao24, co24, eo24⟩ := Kd.R_slice HO_7.out
                        (first | subst eo24 | (injection eo24 with f1_ f2_ f3_; have f4_ := f1_.symm; have f5_ := f3_.symm; clear f1_ f2_ f3_; subst f4_; subst f5_))
                        have p554 : 0 ≤ (x9_2 : Int) := of_decide_eq_true (by first | (with_reducible assumption) | assumption)
                        have q554 : x9_2 < (t550.length : Int) := of_decide_eq_true (by first | (with_reducible assumption) | assumption)
                        obtain ⟨ad554, e554, hx554_0, hx554_1, hx554_2, hx554_3⟩ := at_T50 (Kd.R_reads' HO_7.out).2.2 x9_2 p554 q554
                        cases e554
                        replace p554 := eq_true p554
                        replace q554 := eq_true q554
                        have p555 : 0 ≤ (x9_2 : Int) := of_decide_eq_true (by first | (with_reducible assumption) | assumption)
                        have q555 : x9_2 < (l0.length : Int) := of_decide_eq_true (by first | (with_reducible assumption) | assumption)
                        obtain ⟨ad555, e555, hx555_0, hx555_1, hx555_2, hx555_3⟩ := at_T50 HR0.out x9_2 p555 q555
                        have hw555_3 := hx555_3
                        have hw555_2 := hx555_2
                        have hw555_1 := hx555_1
                        have hw555_0 := hx555_0
                        cases e555
                        replace hx555_0 := (HB.out.cell (World.block_lt_of_cell? w _ hx555_0)).trans hx555_0
                        replace hx555_1 := (HB.out.cell (World.block_lt_of_cell? w _ hx555_1)).trans hx555_1
                        replace hx555_2 := (HB.out.cell (World.block_lt_of_cell? w _ hx555_2)).trans hx555_2
                        replace hx555_3 := (HB.out.cell (World.block_lt_of_cell? w _ hx555_3)).trans hx555_3
                        replace p555 := eq_true p555
                        replace q555 := eq_true q555
                        refine start_ (n := 11) (S := fun w' => w'.cell? (ad554.add ((x9_2).toNat * 4)) = some (.int .i64 ((rd_T50 t550 x9_2).f0)) ∧ w'.cell? ⟨(ad554.add ((x9_2).toNat * 4)).block, (ad554.add ((x9_2).toNat * 4)).off + 1, none⟩ = some (.int .i64 ((rd_T50 t550 x9_2).f1)) ∧ w'.cell? ⟨(ad554.add ((x9_2).toNat * 4)).block, (ad554.add ((x9_2).toNat * 4)).off + 2, none⟩ = some (.float .f64 ((rd_T50 t550 x9_2).f2)) ∧ w'.cell? ⟨(ad554.add ((x9_2).toNat * 4)).block, (ad554.add ((x9_2).toNat * 4)).off + 3, none⟩ = some (.string ((rd_T50 t550 x9_2).f3)) ∧ w'.cell? (ad555.add ((x9_2).toNat * 4)) = some (.int .i64 ((rd_T50 l0 x9_2).f0)) ∧ w'.cell? ⟨(ad555.add ((x9_2).toNat * 4)).block, (ad555.add ((x9_2).toNat * 4)).off + 1, none⟩ = some (.int .i64 ((rd_T50 l0 x9_2).f1)) ∧ w'.cell? ⟨(ad555.add ((x9_2).toNat * 4)).block, (ad555.add ((x9_2).toNat * 4)).off + 2, none⟩ = some (.float .f64 ((rd_T50 l0 x9_2).f2)) ∧ w'.cell? ⟨(ad555.add ((x9_2).toNat * 4)).block, (ad555.add ((x9_2).toNat * 4)).off + 3, none⟩ = some (.string ((rd_T50 l0 x9_2).f3))) (ds := []) #[false, false, false, false, false, false, false, false, false, false, false] (by kernel_rfl) rfl rfl ⟨hx554_0, hx554_1, hx554_2, hx554_3, ((HB.out.cell (World.block_lt_of_cell? w _ hw555_0)).trans hw555_0), ((HB.out.cell (World.block_lt_of_cell? w _ hw555_1)).trans hw555_1), ((HB.out.cell (World.block_lt_of_cell? w _ hw555_2)).trans hw555_2), ((HB.out.cell (World.block_lt_of_cell? w _ hw555_3)).trans hw555_3)⟩ (fun hHeld => ?_); refine with_tabW vellumlaw02_CodeBack.tab9 vellumlaw02_CodeBack.bits9 (fun HT_ HW_ => ?_)
                        generalize wr.drew = w23 at HO_7 HB hx554_0 hx554_1 hx554_2 hx554_3 hx555_0 hx555_1 hx555_2 hx555_3 hHeld ⊢
                        refine pure_ (i := 0) (N := some 41) (v := ?_) (a' := ?_) #[true, false, false, false, false, false, false, false, false, false, false] rfl rfl (any_of HT_.out (by kernel_rfl)) (fun _ _ _ h => h) (Or.inl ⟨by rfl, ?_⟩) ?_ ?_
                        rotate_left
                        · intro w'
                          go_simp
                          with_reducible rfl
                        rotate_left
                        · simp only [Act.put, List.setIfInBounds_toArray, List.set_cons_zero, List.set_cons_succ, i64_w, i32_w]
                          rfl
                        refine pure_ (i := 1) (N := some 42) (v := ?_) (a' := ?_) #[true, true, false, false, false, false, false, false, false, false, false] rfl rfl (any_of HT_.out (by kernel_rfl)) (fun _ _ _ h => h) (Or.inl ⟨by rfl, ?_⟩) ?_ ?_
                        rotate_left
                        · intro w'
                          go_simp
                          with_reducible rfl
                        rotate_left
                        · simp only [Act.put, List.setIfInBounds_toArray, List.set_cons_zero, List.set_cons_succ, i64_w, i32_w]
                          rfl
                        refine pure_ (i := 2) (N := some 43) (v := ?_) (a' := ?_) #[true, true, true, false, false, false, false, false, false, false, false] rfl rfl (any_of HT_.out (by kernel_rfl)) (fun _ _ _ h => h) (Or.inl ⟨by rfl, ?_⟩) ?_ ?_
                        rotate_left
                        · intro w'
                          go_simp
                          with_reducible rfl
                        rotate_left
                        · simp only [Act.put, List.setIfInBounds_toArray, List.set_cons_zero, List.set_cons_succ, i64_w, i32_w]
                          rfl
                        refine pure_ (i := 4) (N := some 45) (v := ?_) (a' := ?_) #[true, true, true, false, true, false, false, false, false, false, false] rfl rfl (any_of HT_.out (by kernel_rfl)) (fun _ _ _ h => h) (Or.inl ⟨by rfl, ?_⟩) ?_ ?_
                        rotate_left
                        · intro w'
                          go_simp
                          with_reducible rfl
                        rotate_left
                        · simp only [Act.put, List.setIfInBounds_toArray, List.set_cons_zero, List.set_cons_succ, i64_w, i32_w]
                          rfl
                        refine pure_ (i := 5) (N := some 46) (v := ?_) (a' := ?_) #[true, true, true, false, true, true, false, false, false, false, false] rfl rfl (any_of HT_.out (by kernel_rfl)) (fun _ _ _ h => h) (Or.inl ⟨by rfl, ?_⟩) ?_ ?_
                        rotate_left
                        · intro w'
                          go_simp
                          with_reducible rfl
                        rotate_left
                        · simp only [Act.put, List.setIfInBounds_toArray, List.set_cons_zero, List.set_cons_succ, i64_w, i32_w]
                          rfl
                        refine pure_ (i := 6) (N := some 47) (v := ?_) (a' := ?_) #[true, true, true, false, true, true, true, false, false, false, false] rfl rfl (any_of HT_.out (by kernel_rfl)) (fun _ _ _ h => h) (Or.inl ⟨by rfl, ?_⟩) ?_ ?_
                        rotate_left
                        · intro w'
                          go_simp
                          with_reducible rfl
                        rotate_left
                        · simp only [Act.put, List.setIfInBounds_toArray, List.set_cons_zero, List.set_cons_succ, i64_w, i32_w]
                          rfl
                        refine take_ (i := 3) (N := some 44) (v := ?_) (a' := ?_) #[true, true, true, true, true, true, true, false, false, false, false] rfl rfl (take_ofW HT_.out HW_.out (by kernel_rfl)) (fun _ _ _ h => h) (Or.inl ⟨by rfl, ?_⟩) hHeld ?_ ?_
                        rotate_left
                        · rintro w' ⟨s0, s1, s2, s3, s4, s5, s6, s7⟩
                          go_simp
                          with_reducible rfl
                        rotate_left
                        · simp only [Act.put, List.setIfInBounds_toArray, List.set_cons_zero, List.set_cons_succ, i64_w, i32_w]
                          rfl
                        refine take_ (i := 7) (N := some 48) (v := ?_) (a' := ?_) #[true, true, true, true, true, true, true, true, false, false, false] rfl rfl (take_ofW HT_.out HW_.out (by kernel_rfl)) (fun _ _ _ h => h) (Or.inl ⟨by rfl, ?_⟩) hHeld ?_ ?_
                        rotate_left
                        · rintro w' ⟨s0, s1, s2, s3, s4, s5, s6, s7⟩
                          go_simp
                          with_reducible rfl
                        rotate_left
                        · simp only [Act.put, List.setIfInBounds_toArray, List.set_cons_zero, List.set_cons_succ, i64_w, i32_w]
                          rfl
                        refine one_ (i := 8) (N := some 49) #[true, true, true, true, true, true, true, true, true, false, false] rfl rfl (one_of HT_.out (by kernel_rfl)) (by decide) (fun K hK => ?_)
                        refine goes_ Tryd.func47 (by kernel_rfl) rfl #[.agg #[.int .i64 ((rd_T50 l0 x9_2).f0), .int .i64 ((rd_T50 l0 x9_2).f1), .float .f64 ((rd_T50 l0 x9_2).f2), .string ((rd_T50 l0 x9_2).f3)]] (by rfl) rfl rfl (by (try simp only [List.map_toArray, List.map_cons, List.map_nil]); first | done | rfl | (simp only [List.length_drop, List.length_take]; rfl)) ?_
                        with_reducible refine (vellumref01_Plain.calls k2 ((rd_T50 l0 x9_2).f0) ((rd_T50 l0 x9_2).f1) ((rd_T50 l0 x9_2).f2) ((rd_T50 l0 x9_2).f3) t556 t557 t558 t559 _ A16.out).mono ?_
                        rintro e w25 ⟨rfl, hb⟩
                        have HS0_ := (hb.cell (World.block_lt_of_cell? _ _ (hHeld.1))).trans (hHeld.1)
                        have HS1_ := (hb.cell (World.block_lt_of_cell? _ _ (hHeld.2.1))).trans (hHeld.2.1)
                        have HS2_ := (hb.cell (World.block_lt_of_cell? _ _ (hHeld.2.2.1))).trans (hHeld.2.2.1)
                        have HS3_ := (hb.cell (World.block_lt_of_cell? _ _ (hHeld.2.2.2.1))).trans (hHeld.2.2.2.1)
                        refine ⟨_, rfl, ?_⟩
                        have n0_ := Aside0.mk (Kd.R_below (by (with_reducible repeat (first | apply Kd.R_alloc | apply Kd.R_drewN | apply Kd.R_drew)); exact HO_7.out) hb)
                        have n1_ := Aside0.mk (below_step (by repeat (first | (with_reducible first | exact HB.out | apply below_alloc | apply pw_below_drewN | apply below_drew1) | exact HB.out)) hb)
                        clear HO_7
                        clear HB
                        have HO_7 := n0_
                        have HB := n1_
                        clear n0_ n1_
                        (try clear hb)
                        (try clear hb2)
                        (try clear hk)
                        (try clear hi)
                        refine hK.out _ _ ⟨HS0_, HS1_, HS2_, HS3_, ((HB.out.cell (World.block_lt_of_cell? w _ hw555_0)).trans hw555_0), ((HB.out.cell (World.block_lt_of_cell? w _ hw555_1)).trans hw555_1), ((HB.out.cell (World.block_lt_of_cell? w _ hw555_2)).trans hw555_2), ((HB.out.cell (World.block_lt_of_cell? w _ hw555_3)).trans hw555_3)⟩ (fun hHeld => ?_)
                        clear hK K
                        refine norm_ (a' := ?_) ?_ ?_
                        rotate_left
                        · show Act.put _ (some 49) _ = _
                          simp only [Act.put, List.setIfInBounds_toArray, List.set_cons_zero, List.set_cons_succ, i64_w, i32_w]
                          rfl
                        refine one_ (i := 9) (N := some 50) #[true, true, true, true, true, true, true, true, true, true, false] rfl rfl (one_of HT_.out (by kernel_rfl)) (by decide) (fun K hK => ?_)
                        refine goes_ Tryd.func46 (by kernel_rfl) rfl #[.agg #[.int .i64 ((rd_T50 t550 x9_2).f0), .int .i64 ((rd_T50 t550 x9_2).f1), .float .f64 ((rd_T50 t550 x9_2).f2), .string ((rd_T50 t550 x9_2).f3)], .agg #[.int .i64 t556, .int .i64 t557, .float .f64 t558, .string t559]] (by rfl) rfl rfl (by (try simp only [List.map_toArray, List.map_cons, List.map_nil]); first | done | rfl | (simp only [List.length_drop, List.length_take]; rfl)) ?_
                        with_reducible refine (vellumref01_Same.calls ((rd_T50 t550 x9_2).f0) ((rd_T50 t550 x9_2).f1) ((rd_T50 t550 x9_2).f2) ((rd_T50 t550 x9_2).f3) t556 t557 t558 t559 false _ A17.out).mono ?_
                        rintro e w26 ⟨rfl, hb⟩
                        have HS0_ := (hb.cell (World.block_lt_of_cell? _ _ (hHeld.1))).trans (hHeld.1)
                        have HS1_ := (hb.cell (World.block_lt_of_cell? _ _ (hHeld.2.1))).trans (hHeld.2.1)
                        have HS2_ := (hb.cell (World.block_lt_of_cell? _ _ (hHeld.2.2.1))).trans (hHeld.2.2.1)
                        have HS3_ := (hb.cell (World.block_lt_of_cell? _ _ (hHeld.2.2.2.1))).trans (hHeld.2.2.2.1)
                        refine ⟨_, rfl, ?_⟩
                        have n0_ := Aside0.mk (Kd.R_below (by (with_reducible repeat (first | apply Kd.R_alloc | apply Kd.R_drewN | apply Kd.R_drew)); exact HO_7.out) hb)
                        have n1_ := Aside0.mk (below_step (by repeat (first | (with_reducible first | exact HB.out | apply below_alloc | apply pw_below_drewN | apply below_drew1) | exact HB.out)) hb)
                        clear HO_7
                        clear HB
                        have HO_7 := n0_
                        have HB := n1_
                        clear n0_ n1_
                        (try clear hb)
                        (try clear hb2)
                        (try clear hk)
                        (try clear hi)
                        refine hK.out _ _ ⟨HS0_, HS1_, HS2_, HS3_, ((HB.out.cell (World.block_lt_of_cell? w _ hw555_0)).trans hw555_0), ((HB.out.cell (World.block_lt_of_cell? w _ hw555_1)).trans hw555_1), ((HB.out.cell (World.block_lt_of_cell? w _ hw555_2)).trans hw555_2), ((HB.out.cell (World.block_lt_of_cell? w _ hw555_3)).trans hw555_3)⟩ (fun hHeld => ?_)
                        clear hK K
                        refine norm_ (a' := ?_) ?_ ?_
                        rotate_left
                        · show Act.put _ (some 50) _ = _
                          simp only [Act.put, List.setIfInBounds_toArray, List.set_cons_zero, List.set_cons_succ, i64_w, i32_w]
                          rfl
                        refine pure_ (i := 10) (N := some 51) (v := ?_) (a' := ?_) #[true, true, true, true, true, true, true, true, true, true, true] rfl rfl (any_of HT_.out (by kernel_rfl)) (fun _ _ _ h => h) (Or.inl ⟨by rfl, ?_⟩) ?_ ?_
                        rotate_left
                        · intro w'
                          go_simp
                          with_reducible rfl
                        rotate_left
                        · simp only [Act.put, List.setIfInBounds_toArray, List.set_cons_zero, List.set_cons_succ, i64_w, i32_w]
                          rfl
                        refine done_ (done_of HT_.out (by kernel_rfl)) ?_
                        try go_wp2
                        go_ret
                        exact ⟨by first | rfl | (simp [errW_none, errW_some] <;> rfl) | (simp [*, errW_none, errW_some] <;> rfl), by repeat (first | (with_reducible first | exact HB.out | apply below_alloc | apply pw_below_drewN | apply below_drew1) | exact HB.out)⟩
                    · rw [if_neg c15] at H
                      exact absurd H (by simp)
                  · rw [if_neg c14] at H
                    exact absurd H (by simp)
                · rw [if_neg c13] at H
                  have c13b0 : decide (x9_2 < (l0.length : Int)) = false := decide_eq_false c13
                  clear c13
                  have H' := Aside0.mk H
                  clear H
                  go_wp2
                  go_meet
                  case rel => exact ⟨_, H', ⟨by have := HJ7.out; have := HK2.out; first | omega | exact Nat.le_refl _⟩, ⟨by repeat (first | (with_reducible first | exact HB.out | apply below_alloc | apply pw_below_drewN | apply below_drew1) | exact HB.out)⟩⟩
    · rw [if_neg c6] at H
      have c6b0 : (t549 == 0) = false := beq_eq_false_iff_ne.mpr c6
      have c6b1 : (t549 != 0) = true := bne_iff_ne.mpr c6
      (first | rw [c6b0] | (simp only [i64_w, i32_w]; rw [c6b0]) | skip)
      have H' := Aside0.mk H
      clear H
      go_wp2
      go_meet
      case rel => exact ⟨_, H', ⟨by first | omega | exact Nat.le_refl _⟩, ⟨by repeat (first | (with_reducible first | exact HB.out | apply below_alloc | apply pw_below_drewN | apply below_drew1) | exact HB.out)⟩⟩
  case rest =>
    clear HC4
    try clear c1
    try clear c2
    try clear p2
    try clear c4
    try clear p5
    try clear q5
    try clear hx5
    try clear c6
    try clear c6b0
    try clear c6b1
    try clear p6
    try clear c9
    try clear c10
    try clear c10b0
    try clear c10b1
    try clear c12
    try clear c13
    try clear c13b0
    try clear c14
    try clear c14b0
    try clear c15
    try clear c15b0
    try clear c18
    try clear c21
    try clear hx554_0
    try clear hx554_1
    try clear hx554_2
    try clear hx554_3
    try clear hx555_0
    try clear hx555_1
    try clear hx555_2
    try clear hx555_3
    try clear p2
    try clear p554
    try clear p555
    try clear q554
    try clear q555
    obtain ⟨kq, HA, HJ3, HB⟩ := hcut
    cases kq with
    | zero => exact absurd HA.out (by simp [vellumlaw02_CodeBack.j2])
    | succ kj3 =>
      have H := HA.out
      clear HA
      simp only [vellumlaw02_CodeBack.j2] at H
      replace H := Option.bind_eq_some_iff.mp H
      obtain ⟨⟨t561, t562⟩, A270, H⟩ := H
      replace H : (if t562 = 0 then ((code_Encode.f kj3 t561).bind fun bt565 => (if bt565.2 = 0 then (if bt565.1.toList = a1.toList then ((vellumlaw02_awake.f kj3).bind fun t567 => (some t567)) else (some false)) else (some false))) else (if (t561.length : Int) = 0 then ((vellumlaw02_awake.f kj3).bind fun t568 => (some t568)) else (some false))) = some r := H
      have A27 := Aside0.mk A270
      clear A270
      by_cases c28 : t562 = 0
      · rw [if_pos c28] at H
        have c28b0 : (t562 == 0) = true := beq_iff_eq.mpr c28
        have c28b1 : (t562 != 0) = false := bne_eq_false_iff_eq.mpr c28
        clear c28
        replace H := Option.bind_eq_some_iff.mp H
        obtain ⟨⟨t565, t566⟩, A290, H⟩ := H
        replace H : (if t566 = 0 then (if t565.toList = a1.toList then ((vellumlaw02_awake.f kj3).bind fun t567 => (some t567)) else (some false)) else (some false)) = some r := H
        have A29 := Aside0.mk A290
        clear A290
        by_cases c30 : t566 = 0
        · rw [if_pos c30] at H
          have c30b0 : (t566 == 0) = true := beq_iff_eq.mpr c30
          have c30b1 : (t566 != 0) = false := bne_eq_false_iff_eq.mpr c30
          clear c30
          by_cases c31 : t565.toList = a1.toList
          · rw [if_pos c31] at H
            have c31b0 : (t565.toList == a1.toList) = true := beq_iff_eq.mpr c31
            have c31b1 : (t565.toList != a1.toList) = false := bne_eq_false_iff_eq.mpr c31
            clear c31
            replace H := Option.bind_eq_some_iff.mp H
            obtain ⟨t567, A320, H⟩ := H
            replace H : (some t567) = some r := H
            have A32 := Aside0.mk A320
            clear A320
            obtain rfl := Option.some.inj H
            go_wp2_with (first | ((with_reducible refine gate_callee (f := 43) rfl ?_); refine goesL_ (some 54) rfl rfl Tryd.func43 (by kernel_rfl) rfl #[.string a1] rfl (by (try simp only [List.map_toArray, List.map_cons, List.map_nil]); first | done | rfl | (simp only [List.length_drop, List.length_take]; rfl)) ?_; (with_reducible refine (code_Decode.calls kj3 a1 t561 t562 _ ?side1 A27.out).mono ?_); (case side1 => exact Glob.below HG.out (by repeat (first | (with_reducible first | exact HB.out | apply below_alloc | apply pw_below_drewN | apply below_drew1) | exact HB.out))); rintro e w33 ⟨v563, rfl, ho0, hb⟩; refine ⟨_, rfl, ?_⟩; have n0_ := Aside0.mk (Kd.R_lower ho0 (below_size (by repeat (first | (with_reducible first | exact HB.out | apply below_alloc | apply pw_below_drewN | apply below_drew1) | exact HB.out)))); have n1_ := Aside0.mk (below_step (by repeat (first | (with_reducible first | exact HB.out | apply below_alloc | apply pw_below_drewN | apply below_drew1) | exact HB.out)) hb); clear HB; have HO564 := n0_; have HB := n1_; clear n0_ n1_; (try clear hb); (try clear hb2); (try clear hk); (try clear hi); (try clear ho0); obtain ⟨Ao34, co34, eo34⟩ := Kd.R_slice HO564.out; subst eo34) | ((with_reducible refine gate_callee (f := 21) rfl ?_); refine goesL_ (some 67) rfl rfl Tryd.func21 (by kernel_rfl) rfl #[.slice Ao34 t561.length co34] rfl (by (try simp only [List.map_toArray, List.map_cons, List.map_nil]); first | done | rfl | (simp only [List.length_drop, List.length_take]; rfl)) ?_; (with_reducible refine (code_Encode.calls kj3 _ _ t561 t565 t566 _ ?side1 ?side2 ?side3 A29.out).mono ?_); (case side1 => repeat (first | exact (Kd.R_reads' HO564.out).2.2 | (with_reducible refine Kd.C_alloc ?_ _) | (with_reducible refine Kd.C_drewN ?_ _) | (with_reducible refine Kd.C_drew ?_))); (case side2 => exact (Kd.R_reads' HO564.out).2.1); (case side3 => exact Glob.below HG.out (by repeat (first | (with_reducible first | exact HB.out | apply below_alloc | apply pw_below_drewN | apply below_drew1) | exact HB.out))); rintro e w35 ⟨rfl, hb⟩; refine ⟨_, rfl, ?_⟩; have n0_ := Aside0.mk (Kd.R_below (by (with_reducible repeat (first | apply Kd.R_alloc | apply Kd.R_drewN | apply Kd.R_drew)); exact HO564.out) hb); have n1_ := Aside0.mk (below_step (by repeat (first | (with_reducible first | exact HB.out | apply below_alloc | apply pw_below_drewN | apply below_drew1) | exact HB.out)) hb); clear HO564; clear HB; have HO564 := n0_; have HB := n1_; clear n0_ n1_; (try clear hb); (try clear hb2); (try clear hk); (try clear hi)) | (go_at_call 23; (with_reducible refine (vellumlaw02_awake.calls kj3  t567 _ ?side1 A32.out).mono ?_); (case side1 => exact Glob.below HG.out (by repeat (first | (with_reducible first | exact HB.out | apply below_alloc | apply pw_below_drewN | apply below_drew1) | exact HB.out))); rintro e w36 ⟨rfl, hb⟩; have n0_ := Aside0.mk (Kd.R_below (by (with_reducible repeat (first | apply Kd.R_alloc | apply Kd.R_drewN | apply Kd.R_drew)); exact HO564.out) hb); have n1_ := Aside0.mk (below_step (by repeat (first | (with_reducible first | exact HB.out | apply below_alloc | apply pw_below_drewN | apply below_drew1) | exact HB.out)) hb); clear HO564; clear HB; have HO564 := n0_; have HB := n1_; clear n0_ n1_; (try clear hb); (try clear hb2); (try clear hk); (try clear hi)))
            go_ret
            exact ⟨by first | rfl | (simp [errW_none, errW_some] <;> rfl) | (simp [*, errW_none, errW_some] <;> rfl), by repeat (first | (with_reducible first | exact HB.out | apply below_alloc | apply pw_below_drewN | apply below_drew1) | exact HB.out)⟩
          · rw [if_neg c31] at H
            have c31b0 : (t565.toList == a1.toList) = false := beq_eq_false_iff_ne.mpr c31
            have c31b1 : (t565.toList != a1.toList) = true := bne_iff_ne.mpr c31
            obtain rfl := Option.some.inj H
            go_wp2_with (first | ((with_reducible refine gate_callee (f := 43) rfl ?_); refine goesL_ (some 54) rfl rfl Tryd.func43 (by kernel_rfl) rfl #[.string a1] rfl (by (try simp only [List.map_toArray, List.map_cons, List.map_nil]); first | done | rfl | (simp only [List.length_drop, List.length_take]; rfl)) ?_; (with_reducible refine (code_Decode.calls kj3 a1 t561 t562 _ ?side1 A27.out).mono ?_); (case side1 => exact Glob.below HG.out (by repeat (first | (with_reducible first | exact HB.out | apply below_alloc | apply pw_below_drewN | apply below_drew1) | exact HB.out))); rintro e w37 ⟨v563, rfl, ho0, hb⟩; refine ⟨_, rfl, ?_⟩; have n0_ := Aside0.mk (Kd.R_lower ho0 (below_size (by repeat (first | (with_reducible first | exact HB.out | apply below_alloc | apply pw_below_drewN | apply below_drew1) | exact HB.out)))); have n1_ := Aside0.mk (below_step (by repeat (first | (with_reducible first | exact HB.out | apply below_alloc | apply pw_below_drewN | apply below_drew1) | exact HB.out)) hb); clear HB; have HO564 := n0_; have HB := n1_; clear n0_ n1_; (try clear hb); (try clear hb2); (try clear hk); (try clear hi); (try clear ho0); obtain ⟨Ao38, co38, eo38⟩ := Kd.R_slice HO564.out; subst eo38) | ((with_reducible refine gate_callee (f := 21) rfl ?_); refine goesL_ (some 67) rfl rfl Tryd.func21 (by kernel_rfl) rfl #[.slice Ao38 t561.length co38] rfl (by (try simp only [List.map_toArray, List.map_cons, List.map_nil]); first | done | rfl | (simp only [List.length_drop, List.length_take]; rfl)) ?_; (with_reducible refine (code_Encode.calls kj3 _ _ t561 t565 t566 _ ?side1 ?side2 ?side3 A29.out).mono ?_); (case side1 => repeat (first | exact (Kd.R_reads' HO564.out).2.2 | (with_reducible refine Kd.C_alloc ?_ _) | (with_reducible refine Kd.C_drewN ?_ _) | (with_reducible refine Kd.C_drew ?_))); (case side2 => exact (Kd.R_reads' HO564.out).2.1); (case side3 => exact Glob.below HG.out (by repeat (first | (with_reducible first | exact HB.out | apply below_alloc | apply pw_below_drewN | apply below_drew1) | exact HB.out))); rintro e w39 ⟨rfl, hb⟩; refine ⟨_, rfl, ?_⟩; have n0_ := Aside0.mk (Kd.R_below (by (with_reducible repeat (first | apply Kd.R_alloc | apply Kd.R_drewN | apply Kd.R_drew)); exact HO564.out) hb); have n1_ := Aside0.mk (below_step (by repeat (first | (with_reducible first | exact HB.out | apply below_alloc | apply pw_below_drewN | apply below_drew1) | exact HB.out)) hb); clear HO564; clear HB; have HO564 := n0_; have HB := n1_; clear n0_ n1_; (try clear hb); (try clear hb2); (try clear hk); (try clear hi)))
            go_ret
            exact ⟨by first | rfl | (simp [errW_none, errW_some] <;> rfl) | (simp [*, errW_none, errW_some] <;> rfl), by repeat (first | (with_reducible first | exact HB.out | apply below_alloc | apply pw_below_drewN | apply below_drew1) | exact HB.out)⟩
        · rw [if_neg c30] at H
          have c30b0 : (t566 == 0) = false := beq_eq_false_iff_ne.mpr c30
          have c30b1 : (t566 != 0) = true := bne_iff_ne.mpr c30
          obtain rfl := Option.some.inj H
          go_wp2_with (first | ((with_reducible refine gate_callee (f := 43) rfl ?_); refine goesL_ (some 54) rfl rfl Tryd.func43 (by kernel_rfl) rfl #[.string a1] rfl (by (try simp only [List.map_toArray, List.map_cons, List.map_nil]); first | done | rfl | (simp only [List.length_drop, List.length_take]; rfl)) ?_; (with_reducible refine (code_Decode.calls kj3 a1 t561 t562 _ ?side1 A27.out).mono ?_); (case side1 => exact Glob.below HG.out (by repeat (first | (with_reducible first | exact HB.out | apply below_alloc | apply pw_below_drewN | apply below_drew1) | exact HB.out))); rintro e w40 ⟨v563, rfl, ho0, hb⟩; refine ⟨_, rfl, ?_⟩; have n0_ := Aside0.mk (Kd.R_lower ho0 (below_size (by repeat (first | (with_reducible first | exact HB.out | apply below_alloc | apply pw_below_drewN | apply below_drew1) | exact HB.out)))); have n1_ := Aside0.mk (below_step (by repeat (first | (with_reducible first | exact HB.out | apply below_alloc | apply pw_below_drewN | apply below_drew1) | exact HB.out)) hb); clear HB; have HO564 := n0_; have HB := n1_; clear n0_ n1_; (try clear hb); (try clear hb2); (try clear hk); (try clear hi); (try clear ho0); obtain ⟨Ao41, co41, eo41⟩ := Kd.R_slice HO564.out; subst eo41) | ((with_reducible refine gate_callee (f := 21) rfl ?_); refine goesL_ (some 67) rfl rfl Tryd.func21 (by kernel_rfl) rfl #[.slice Ao41 t561.length co41] rfl (by (try simp only [List.map_toArray, List.map_cons, List.map_nil]); first | done | rfl | (simp only [List.length_drop, List.length_take]; rfl)) ?_; (with_reducible refine (code_Encode.calls kj3 _ _ t561 t565 t566 _ ?side1 ?side2 ?side3 A29.out).mono ?_); (case side1 => repeat (first | exact (Kd.R_reads' HO564.out).2.2 | (with_reducible refine Kd.C_alloc ?_ _) | (with_reducible refine Kd.C_drewN ?_ _) | (with_reducible refine Kd.C_drew ?_))); (case side2 => exact (Kd.R_reads' HO564.out).2.1); (case side3 => exact Glob.below HG.out (by repeat (first | (with_reducible first | exact HB.out | apply below_alloc | apply pw_below_drewN | apply below_drew1) | exact HB.out))); rintro e w42 ⟨rfl, hb⟩; refine ⟨_, rfl, ?_⟩; have n0_ := Aside0.mk (Kd.R_below (by (with_reducible repeat (first | apply Kd.R_alloc | apply Kd.R_drewN | apply Kd.R_drew)); exact HO564.out) hb); have n1_ := Aside0.mk (below_step (by repeat (first | (with_reducible first | exact HB.out | apply below_alloc | apply pw_below_drewN | apply below_drew1) | exact HB.out)) hb); clear HO564; clear HB; have HO564 := n0_; have HB := n1_; clear n0_ n1_; (try clear hb); (try clear hb2); (try clear hk); (try clear hi)))
          go_ret
          exact ⟨by first | rfl | (simp [errW_none, errW_some] <;> rfl) | (simp [*, errW_none, errW_some] <;> rfl), by repeat (first | (with_reducible first | exact HB.out | apply below_alloc | apply pw_below_drewN | apply below_drew1) | exact HB.out)⟩
      · rw [if_neg c28] at H
        have c28b0 : (t562 == 0) = false := beq_eq_false_iff_ne.mpr c28
        have c28b1 : (t562 != 0) = true := bne_iff_ne.mpr c28
        by_cases c43 : (t561.length : Int) = 0
        · rw [if_pos c43] at H
          have c43b0 : ((t561.length : Int) == 0) = true := beq_iff_eq.mpr c43
          have c43b1 : ((t561.length : Int) != 0) = false := bne_eq_false_iff_eq.mpr c43
          clear c43
          replace H := Option.bind_eq_some_iff.mp H
          obtain ⟨t568, A440, H⟩ := H
          replace H : (some t568) = some r := H
          have A44 := Aside0.mk A440
          clear A440
          obtain rfl := Option.some.inj H
          go_wp2_with (first | ((with_reducible refine gate_callee (f := 43) rfl ?_); refine goesL_ (some 54) rfl rfl Tryd.func43 (by kernel_rfl) rfl #[.string a1] rfl (by (try simp only [List.map_toArray, List.map_cons, List.map_nil]); first | done | rfl | (simp only [List.length_drop, List.length_take]; rfl)) ?_; (with_reducible refine (code_Decode.calls kj3 a1 t561 t562 _ ?side1 A27.out).mono ?_); (case side1 => exact Glob.below HG.out (by repeat (first | (with_reducible first | exact HB.out | apply below_alloc | apply pw_below_drewN | apply below_drew1) | exact HB.out))); rintro e w45 ⟨v563, rfl, ho0, hb⟩; refine ⟨_, rfl, ?_⟩; have n0_ := Aside0.mk (Kd.R_lower ho0 (below_size (by repeat (first | (with_reducible first | exact HB.out | apply below_alloc | apply pw_below_drewN | apply below_drew1) | exact HB.out)))); have n1_ := Aside0.mk (below_step (by repeat (first | (with_reducible first | exact HB.out | apply below_alloc | apply pw_below_drewN | apply below_drew1) | exact HB.out)) hb); clear HB; have HO564 := n0_; have HB := n1_; clear n0_ n1_; (try clear hb); (try clear hb2); (try clear hk); (try clear hi); (try clear ho0); obtain ⟨Ao46, co46, eo46⟩ := Kd.R_slice HO564.out; subst eo46) | (go_at_call 23; (with_reducible refine (vellumlaw02_awake.calls kj3  t568 _ ?side1 A44.out).mono ?_); (case side1 => exact Glob.below HG.out (by repeat (first | (with_reducible first | exact HB.out | apply below_alloc | apply pw_below_drewN | apply below_drew1) | exact HB.out))); rintro e w47 ⟨rfl, hb⟩; have n0_ := Aside0.mk (Kd.R_below (by (with_reducible repeat (first | apply Kd.R_alloc | apply Kd.R_drewN | apply Kd.R_drew)); exact HO564.out) hb); have n1_ := Aside0.mk (below_step (by repeat (first | (with_reducible first | exact HB.out | apply below_alloc | apply pw_below_drewN | apply below_drew1) | exact HB.out)) hb); clear HO564; clear HB; have HO564 := n0_; have HB := n1_; clear n0_ n1_; (try clear hb); (try clear hb2); (try clear hk); (try clear hi)))
          go_ret
          exact ⟨by first | rfl | (simp [errW_none, errW_some] <;> rfl) | (simp [*, errW_none, errW_some] <;> rfl), by repeat (first | (with_reducible first | exact HB.out | apply below_alloc | apply pw_below_drewN | apply below_drew1) | exact HB.out)⟩
        · rw [if_neg c43] at H
          have c43b0 : ((t561.length : Int) == 0) = false := beq_eq_false_iff_ne.mpr c43
          have c43b1 : ((t561.length : Int) != 0) = true := bne_iff_ne.mpr c43
          have c43b2 : ¬ (t561 = []) := fun h_ => c43 (by rw [h_]; rfl)
          obtain rfl := Option.some.inj H
          go_wp2_with (first | ((with_reducible refine gate_callee (f := 43) rfl ?_); refine goesL_ (some 54) rfl rfl Tryd.func43 (by kernel_rfl) rfl #[.string a1] rfl (by (try simp only [List.map_toArray, List.map_cons, List.map_nil]); first | done | rfl | (simp only [List.length_drop, List.length_take]; rfl)) ?_; (with_reducible refine (code_Decode.calls kj3 a1 t561 t562 _ ?side1 A27.out).mono ?_); (case side1 => exact Glob.below HG.out (by repeat (first | (with_reducible first | exact HB.out | apply below_alloc | apply pw_below_drewN | apply below_drew1) | exact HB.out))); rintro e w48 ⟨v563, rfl, ho0, hb⟩; refine ⟨_, rfl, ?_⟩; have n0_ := Aside0.mk (Kd.R_lower ho0 (below_size (by repeat (first | (with_reducible first | exact HB.out | apply below_alloc | apply pw_below_drewN | apply below_drew1) | exact HB.out)))); have n1_ := Aside0.mk (below_step (by repeat (first | (with_reducible first | exact HB.out | apply below_alloc | apply pw_below_drewN | apply below_drew1) | exact HB.out)) hb); clear HB; have HO564 := n0_; have HB := n1_; clear n0_ n1_; (try clear hb); (try clear hb2); (try clear hk); (try clear hi); (try clear ho0); obtain ⟨Ao49, co49, eo49⟩ := Kd.R_slice HO564.out; subst eo49))
          go_ret
          exact ⟨by first | rfl | (simp [errW_none, errW_some] <;> rfl) | (simp [*, errW_none, errW_some] <;> rfl), by repeat (first | (with_reducible first | exact HB.out | apply below_alloc | apply pw_below_drewN | apply below_drew1) | exact HB.out)⟩
end Go.Proofs.YtpiifdbicibelaaDoor.PA
end
section
namespace Go.Proofs.YtpiifdbicibelaaDoor.Pure
open Go.RowKit Go.Proofs Go.Proofs.YtpiifdbicibelaaDoorW.PrintWords Go.Proofs.YtpiifdbicibelaaDoorW.PrintLast Go.Proofs.YtpiifdbicibelaaDoorW.PrintMore Go.Proofs.YtpiifdbicibelaaDoor.PA Go.Proofs.YtpiifdbicibelaaDoor.OpenK
set_option linter.unusedVariables false
set_option linter.unusedSimpArgs false
theorem plain_ref (k : Nat) (a b : Int) {c : Nat} (hc : c < 18446744073709551616) (d : ByteArray) : vellumref01_Plain.f (k + 1) a b c d = some (a, b, if a = 3 then plainF c else c, d) := by
  have hz : feq 9221120237041090560 0 = false := by decide +kernel
  by_cases h3 : a = 3
  · simp only [vellumref01_Plain.f, vellumref01_isNaN.f, Option.bind_some, vellumref01_Plain.j0, h3, if_true]
    by_cases hn : feq c c = true
    · rw [if_neg (by rw [hn]; decide)]
      unfold plainF
      by_cases h0 : feq c 0 = true
      · rw [if_pos h0, if_pos h0]
      · rw [if_neg h0, if_neg h0, if_pos hn]
    · have hnn : ¬ isNum c := fun h => hn ((feq_num hc).2 h)
      rw [if_pos (by simp [hn]), hz, plainF_nan hc hnn]
      rfl
  · simp only [vellumref01_Plain.f, vellumref01_Plain.j0]
    rw [if_neg h3, if_neg (by decide), if_neg h3, if_neg h3]
theorem back_tail (s : ByteArray) : Ev (fun k => vellumlaw02_CodeBack.j2 k s) true := by
  obtain ⟨r, h1, h2, hcase⟩ := decode_both s
  refine Ev.step (g := fun k => (code_Decode.f k s).bind fun bt561 => (if bt561.2 = 0 then ((code_Encode.f k bt561.1).bind fun bt565 => (if bt565.2 = 0 then (if bt565.1.toList = s.toList then ((vellumlaw02_awake.f k).bind fun t567 => (some t567)) else (some false)) else (some false))) else (if (bt561.1.length : Int) = 0 then ((vellumlaw02_awake.f k).bind fun t568 => (some t568)) else (some false)))) (fun k => ?_) (Ev.bind h1 ?_)
  · simp only [vellumlaw02_CodeBack.j2]
  rcases hcase with ⟨e, h0⟩ | ⟨ht, h0, hs, hl⟩
  · exact Ev.neg h0 (Ev.pos (by rw [e]; rfl) (Ev.bind awake_ev Ev.pure))
  · have hlen := flat_len r.1
    have he := encode_flat (fun v h => (ht v h).ok) hl
    refine Ev.pos h0 (Ev.bind (encode_code r.1 (fun v h => (ht v h).wf) (by omega)) (Ev.pos (by rw [he]) (Ev.pos ?_ (Ev.bind awake_ev Ev.pure))))
    rw [he, ← hs]
theorem back_loop (xs : List S50) (hx : ∀ x ∈ xs, wf50 x) (hl : xs.length ≤ 1024) (s : ByteArray) : Ev (fun k => vellumlaw02_CodeBack.l0 k xs s (xs.map plainV) 0) true := by
  have go : ∀ (m i : Nat), i + m = xs.length → Ev (fun k => vellumlaw02_CodeBack.l0 k xs s (xs.map plainV) (i : Int)) true := by
    intro m
    induction m with
    | zero =>
      intro i hi
      refine Ev.step (g := fun k => vellumlaw02_CodeBack.j2 k s) (fun k => ?_) (back_tail s)
      simp only [vellumlaw02_CodeBack.l0]
      rw [if_neg (by omega)]
    | succ m ih =>
      intro i hi
      have hlt : i < xs.length := by omega
      obtain ⟨x, hxx⟩ : ∃ x, xs[i]? = some x := ⟨_, List.getElem?_eq_getElem hlt⟩
      have hmem : x ∈ xs := List.mem_of_getElem? hxx
      have hw := hx x hmem
      have hm : (xs.map plainV)[i]? = some (plainV x) := by rw [List.getElem?_map, hxx]; rfl
      have hwr : True → wrap64 ((i : Int) + 1) = ((i + 1 : Nat) : Int) := fun _ => by rw [wrap64_id (by omega) (by omega)]; omega
      refine Ev.step (g := fun k => (vellumref01_Plain.f k x.f0 x.f1 x.f2 x.f3).bind fun bt556 => ((vellumref01_Same.f (plainV x).f0 (plainV x).f1 (plainV x).f2 (plainV x).f3 bt556.1 bt556.2.1 bt556.2.2.1 bt556.2.2.2).bind fun t560 => (if t560 = true then (vellumlaw02_CodeBack.l0 k xs s (xs.map plainV) ((i + 1 : Nat) : Int)) else (some false)))) (fun k => ?_) ?_
      · simp only [vellumlaw02_CodeBack.l0]
        rw [if_pos (by omega), if_pos (by omega), if_pos (by rw [List.length_map]; omega), rd_get _ _ _ hxx, rd_get _ _ _ hm, hwr trivial]
      · refine Ev.bind (Ev.from_ 1 fun k => plain_ref k _ _ hw.2.2.1 _) ?_
        have hs : vellumref01_Same.f (plainV x).f0 (plainV x).f1 (plainV x).f2 (plainV x).f3 x.f0 x.f1 (if x.f0 = 3 then plainF x.f2 else x.f2) x.f3 = some true := by
          simp only [vellumref01_Same.f, plainV]
          rw [if_pos trivial, if_pos trivial, if_pos trivial]
          simp
        exact Ev.bind (Ev.const hs) (Ev.pos rfl (ih (i + 1) (by omega)))
  exact go xs.length 0 (by omega)
theorem CodeBack (l0 : List S50) (a1 : ByteArray) (h : l0.length * 40 ≤ 140737488351232 ∧ ∀ y ∈ l0, wf50 y) (h1 : a1.size ≤ 140737488351232) : ∃ k, vellumlaw02_CodeBack.f k l0 a1 = some true := by
  refine Ev.ex ?_
  simp only [vellumlaw02_CodeBack.f]
  have he := encode_code l0 h.2 (by omega)
  by_cases h0 : (encode l0).2 = 0
  · obtain ⟨g1, g2, g3⟩ := encode_ok h0
    refine Ev.bind he (Ev.pos h0 ?_)
    have hlen := flat_len l0
    have hd := decode_flat (l0.map plainV) [] (by
        intro v hv
        obtain ⟨w, hw1, rfl⟩ := List.mem_map.1 hv
        exact plainV_told (h.2 w hw1) (g1 w hw1)) (by rw [plainV_flat h.2]; simp; omega)
    rw [plainV_flat h.2] at hd
    have hd2 : Ev (fun k => code_Decode.f k (encode l0).1) (l0.map plainV, 0) := by
      simp only [code_Decode.f, g2, str_size]
      exact Ev.neg (by omega) hd
    refine Ev.bind hd2 (Ev.pos rfl ?_)
    refine Ev.step (g := fun k => vellumlaw02_CodeBack.l0 k l0 a1 (l0.map plainV) 0) (fun k => ?_) (back_loop l0 h.2 (by omega) a1)
    simp only [vellumlaw02_CodeBack.j0]
    rw [if_neg (by simp)]
  · exact Ev.bind he (Ev.neg h0 (back_tail a1))
end Go.Proofs.YtpiifdbicibelaaDoor.Pure
end
section
namespace Go.Proofs.YtpiifdbicibelaaDoor.codeBack
open Go.ChangeShapes Go.WideShapes Go.ChangeAt Go.RowKit Go.Proofs.YtpiifdbicibelaaDoorW.PrintWords Go.Proofs.YtpiifdbicibelaaDoor.PA Go.Proofs.YtpiifdbicibelaaDoor.OpenK Go.Proofs.YtpiifdbicibelaaDoor.Pure
open Go.ChangeMaps (open_string shut_string)
set_option linter.unusedVariables false
theorem walk {H : Type} {enc : TypeId × Value → H} (W : World) (base : Nat) (args : Array Value) (ds : List (DataW H)) (ps : List MemPlace) (hA0 : DataW.TrodAll enc Tryd.prog W 0 (fun _ => true) true Tryd.f9.params.toList args.toList ds ps)
    (hw0 : (DataW.weightsEach Tryd.prog Tryd.f9.params.toList ds).all (· ≤ reachBytes) = true) (hval0 : ∀ (j : Nat) t v, Tryd.f9.params[j]? = some t → args[j]? = some v → Value.okWide Tryd.prog W .any base t v) (hG : Glob W) :
    Calls Tryd.prog 9 args W fun e W' => e = .returned (.bool true) ∧ Below W.heap.size W W' := by
  have hval : ∀ (j : Nat) t v, Tryd.f9.params[j]? = some t → args[j]? = some v → Value.okWide Tryd.prog W .any base t v := @hval0
  have hA : DataW.TrodAll enc Tryd.prog W 0 (fun _ => true) true Tryd.f9.params.toList args.toList ds ps := hA0
  have hw : (DataW.weightsEach Tryd.prog Tryd.f9.params.toList ds).all (· ≤ reachBytes) = true := hw0
  rw [Tryd.params9] at hA hval hw
  clear hA0 hw0 hval0
  obtain ⟨v0, vs0, d0, ds0, p0, q0, hargs, rfl, rfl, h0, r0⟩ := trodAll_cons hA
  obtain ⟨v1, vs1, d1, ds1, p1, q1, rfl, rfl, rfl, h1, r1⟩ := trodAll_cons r0
  obtain ⟨rfl, rfl, rfl⟩ := trodAll_nil r1
  obtain rfl : args = #[v0, v1] := by cases args; simp_all
  simp only [DataW.weightsEach, all_append_iff] at hw
  obtain ⟨hw0, hw1, _⟩ := hw
  obtain ⟨a0, len0, cap0, rfl⟩ := arg_slice (j := 0) @hval rfl rfl Tryd.underlying22
  obtain ⟨fuel0, hf0⟩ := h0
  obtain ⟨l0, ⟨A0, c0, he0, hl0, hC0⟩, wf0_⟩ := (Opn.slice Tryd.underlying22 opn50 (by kernel_rfl) (by kernel_rfl)) hf0 hw0
  simp [Value.cells] at he0
  obtain ⟨rfl, rfl, rfl⟩ := he0
  obtain ⟨a1, rfl, rfl, rfl, y1⟩ := arg_string (j := 1) @hval rfl rfl Tryd.underlying9 h1
  have wf1_ : a1.size ≤ 140737488351232 := by
    simp only [DataW.weights, List.all_cons, List.all_nil, Bool.and_true, decide_eq_true_eq, Array.length_toList] at hw1
    unfold reachBytes at hw1
    exact hw1
  obtain ⟨k, h⟩ := CodeBack l0 a1 wf0_ wf1_
  refine (vellumlaw02_CodeBack.calls k _ _ l0 a1 true W hC0 hl0 hG h).mono ?_
  rintro e W' ⟨rfl, hd⟩
  exact ⟨rfl, hd⟩
theorem witness_row (os : Os) {H : Type} (enc : TypeId × Value → H) :
    (OpenSpec.ofChange Rows.codeBackSpec).preRow enc Tryd.prog Tryd.f9 [] false laidList ((laidWorld os).forCall (fun _ _ => 0) ⟨#[], #[.slice none 0 0, .string ByteArray.empty], []⟩).memory #[.slice none 0 0, .string ByteArray.empty] := by
  have hw : (DataW.whole enc Tryd.prog ((laidWorld os).forCall (fun _ _ => 0) ⟨#[], #[.slice none 0 0, .string ByteArray.empty], []⟩).memory Tryd.f9.params.toList (OpenSpec.ofChange Rows.codeBackSpec).vars false (#[.slice none 0 0, .string ByteArray.empty] : Array Value).toList 8).map (fun x => (x.1, x.2.1)) = some ([.nil, .lit (.string [])], []) := by kernel_rfl
  obtain ⟨⟨x1, x2, x3⟩, hx, hx1⟩ := Option.map_eq_some_iff.1 hw
  simp only [Prod.mk.injEq] at hx1
  obtain ⟨rfl, rfl⟩ := hx1
  exact OpenSpec.preRow_of_cond 8 hx (by kernel_rfl) (fun k hk => by cases hk) (by kernel_rfl) (laid_met os _)
theorem ends {os : Os} (started : os.Started) {H : Type} {enc : TypeId × Value → H} {F : Stop.Interp} : ReturnsInHanded { modest := false } Tryd.checked os 9 .any ((OpenSpec.ofChange Rows.codeBackSpec).preRow enc Tryd.prog Tryd.f9 [] false laidList) (((OpenSpec.ofChange Rows.codeBackSpec).at F).post enc Tryd.prog Tryd.f9 false true false false) :=
  law_lifted (spec := Rows.codeBackSpec) Tryd.func9 (by kernel_rfl) (tb := 4) rfl Tryd.underlying4 (by kernel_rfl) rfl
    (fun H ds hl => by
      match ds, hl with
      | [_, _], _ => rfl) started
    (witness_row_atRef (enc := enc) (C := Tryd.checked) false (laidWorld os) #[.slice none 0 0, .string ByteArray.empty] rfl (by kernel_rfl) (by kernel_rfl) (by kernel_rfl) (witness_row os enc))
    (fun W base args ds ps hA hw hval hG => walk W base args ds ps hA hw @hval hG)
theorem inPlace_ : Tryd.prog.inPlace 9 = Rows.codeBackRow.inPlace := by kernel_rfl
theorem unfollowed_ : Tryd.prog.unfollowed 9 = Rows.codeBackRow.unfollowed := by kernel_rfl
theorem recurses_ : Tryd.prog.recurses 9 = Rows.codeBackRow.recurses := by kernel_rfl
theorem named_ : Tryd.prog.varsNamed 9 = Rows.codeBackRow.named := by kernel_rfl
theorem closed : joinedFacts Tryd.prog 9 Tryd.f9 (OpenSpec.ofChange Rows.codeBackSpec).bare Rows.codeBackRow = true := by
  unfold joinedFacts
  rw [laidOut, mapsRowed_, stops_, stopKnobs_, plainKeys_, stopsHeard_, mayEnter_, lifts_, make_, inPlace_, unfollowed_, recurses_, named_]
  kernel_rfl
set_option maxRecDepth 100000 in
theorem over : Rows.codeBackRow.holds Tryd.pinned (OpenSpec.ofChange Rows.codeBackSpec) :=
  OpenClaim.holds_of_cond 9 Tryd.f9 rfl rfl rfl rfl rfl rfl rfl ⟨rfl, rfl, rfl, rfl, rfl⟩ rfl rfl rfl rfl rfl (by kernel_rfl) Tryd.func9 closed
    (of_decide_eq_true (by kernel_rfl)) (by unfold Func.isWrapper; rw [if_neg (of_decide_eq_false (by kernel_rfl))]; exact ⟨rfl, rfl⟩)
    (fun os started H enc _ F => by
      rw [OpenClaim.pre_eq_preRow]
      exact ends started)
theorem card : Rows.CodeBackCardSaid :=
  Claim7.holds_tied_plain_at .later [] [.data, .pinned] true (true, "409e20a6319c123f59629b35fea50f486835097bfbed967dc062cdc0fc9eff79") false
    over (fun _ h => by cases h) (by kernel_rfl) (fun _ h => by cases h) codeBack_row_tie rfl ⟨rfl, rfl⟩ (by kernel_rfl) rfl
    (fun f fn hf hfn => by
      obtain rfl : f = 9 := Option.some.inj ((show Tryd.prog.funcNamed "vellum/vellumlaw02.CodeBack" = some 9 by kernel_rfl).symm.trans hf) |>.symm
      obtain rfl : fn = Tryd.f9 := (Option.some.inj (Tryd.func9.symm.trans hfn)).symm
      exact ⟨by kernel_rfl, fun j t ht => by
        rw [Tryd.params9] at ht
        have h3 : t ∈ [22, 9] := by
          have := List.mem_of_getElem? (l := [22, 9]) (i := j) (by simpa using ht)
          exact this
        have h4 : ∀ t ∈ [22, 9], Tryd.prog.wantsStandIn t = false := by
          intro t ht
          simp only [List.mem_cons, List.mem_nil_iff, or_false] at ht
          rcases ht with rfl | rfl
          all_goals kernel_rfl
        exact h4 t h3⟩)
    (by kernel_rfl)
end Go.Proofs.YtpiifdbicibelaaDoor.codeBack
namespace Go.Proofs.YtpiifdbicibelaaDoor
theorem codeBack_holds : Rows.CodeBackCardSaid := codeBack.card
end Go.Proofs.YtpiifdbicibelaaDoor
end
