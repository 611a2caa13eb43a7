/- Plain laws, second part: the code of a float, of a text, of a value, of a list of values: the program and the reference write the same. -/
import Derived.Test.YtpiifdbicibelaaDoorPureA
import Derived.Lib.ReplaceLaws
namespace Go.Proofs.YtpiifdbicibelaaDoor.Pure
open Go.RowKit Go.Proofs Go.Proofs.YtpiifdbicibelaaDoorW.PrintWords Go.Proofs.YtpiifdbicibelaaDoorW.PrintLast Go.Proofs.YtpiifdbicibelaaDoorW.PrintMore Go.Proofs.YtpiifdbicibelaaDoor.PA Go.Proofs.YtpiifdbicibelaaDoor.OpenK
set_option linter.unusedVariables false
/-! ### floats -/
theorem order_self (d e : Ieee.Datum) (h : d.order e ≠ none) : d.order d = some .eq := by
  cases d with
  | nan => simp [Ieee.Datum.order] at h
  | infinity s => simp [Ieee.Datum.order]
  | number s m i => simp [Ieee.Datum.order]
theorem feq_self {a b : Nat} (h : feq a b = true) : feq a a = true := by
  unfold feq Ieee.Format.order at *
  have h' := beq_iff_eq.1 h
  rw [order_self _ _ (by rw [h']; simp)]
  rfl
theorem feq_zero : feq 0 0 = true := by decide +kernel
theorem plain_ev (k : Nat) (a b : Int) (c : Nat) (d : ByteArray) : value_Plain.f (k + 1) a b c d = some (a, b, if a = 3 then plainF c else c, d) := by
  unfold value_Plain.f plainF
  by_cases h : a = 3
  · simp only [h, if_true, value_Plain.j0, math_IsNaN.f, Option.bind_some, feq_zero]
    by_cases h0 : feq c 0 = true
    · simp [h0]
    · by_cases h1 : feq c c = true <;> simp [h0, h1]
  · simp [h]
theorem plainF_lt {c : Nat} (h : c < 18446744073709551616) : plainF c < 18446744073709551616 := by
  unfold plainF; split
  · omega
  · split <;> omega
theorem putFloat_ev (l : List Int) (b : Nat) (hb : b < 18446744073709551616) (hl : l.length + 10 < 140737488355328) : Ev (fun k => code_putFloat.f k l b) (l ++ codeBits b) := by
  simp only [code_putFloat.f, codeBits]
  by_cases h : b < 9223372036854775808
  · rw [if_pos h]
    refine Ev.pos (by omega) ?_
    rw [or_top _ (by omega) (by omega)]
    exact Ev.bind (high_ev _ 8 l (by omega) (by omega)) Ev.pure
  · rw [if_neg h]
    refine Ev.neg (by omega) ?_
    rw [not64_eq _ (by omega) (by omega)]
    exact Ev.bind (high_ev _ 8 l (by omega) (by omega)) Ev.pure
theorem real_ev (c : Nat) (hc : c < 18446744073709551616) : Ev (fun k => vellumref02_real.f k c) (codeBits (plainF c)) := by
  have h1 : ∀ b : Nat, b < 18446744073709551616 → Ev (fun k => vellumref02_real.j1 k (b : Int)) (codeBits b) := by
    intro b hb
    unfold codeBits
    by_cases h : b < 9223372036854775808
    · rw [if_pos h]
      refine Ev.step (g := fun k => (vellumref02_big.f k ((b : Int) + 9223372036854775808) 8).bind fun t => some t) (fun k => ?_) (Ev.bind (big_ev _ 8 (by omega)) Ev.pure)
      simp only [vellumref02_real.j1]
      rw [if_pos (by omega), xor_top _ (by omega) (by omega)]
    · rw [if_neg h]
      refine Ev.step (g := fun k => (vellumref02_big.f k (18446744073709551615 - (b : Int)) 8).bind fun t => some t) (fun k => ?_) (Ev.bind (big_ev _ 8 (by omega)) Ev.pure)
      simp only [vellumref02_real.j1]
      rw [if_neg (by omega), not64_eq _ (by omega) (by omega)]
  simp only [vellumref02_real.f, plainF]
  by_cases h0 : feq c 0 = true
  · refine Ev.pos h0 ?_
    rw [if_pos h0]
    refine Ev.step (g := fun k => vellumref02_real.j1 k ((0 : Nat) : Int)) (fun k => ?_) (h1 0 (by omega))
    simp only [vellumref02_real.j0]
    rw [if_pos (feq_self h0)]
    rfl
  · refine Ev.neg h0 ?_
    rw [if_neg h0]
    by_cases hn : feq c c = true
    · rw [if_pos hn]
      refine Ev.step (g := fun k => vellumref02_real.j1 k (c : Int)) (fun k => ?_) (h1 c hc)
      simp only [vellumref02_real.j0]
      rw [if_pos hn]
    · rw [if_neg hn]
      refine Ev.step (g := fun k => vellumref02_real.j1 k ((9221120237041090560 : Nat) : Int)) (fun k => ?_) (h1 _ (by omega))
      simp only [vellumref02_real.j0]
      rw [if_neg hn]
      rfl
/-! ### texts -/
theorem index_cons (b : UInt8) (l : List UInt8) : Lib.index (b :: l) [0] = if b = 0 then 0 else if Lib.index l [0] = -1 then -1 else Lib.index l [0] + 1 := by
  rw [Lib.index]
  by_cases h : b = 0
  · subst h; simp [List.isPrefixOf]
  · have : (0 : UInt8) ≠ b := fun e => h e.symm
    simp [List.isPrefixOf, h, this]
def zeroed (l : List UInt8) : List UInt8 := l.flatMap fun b => if b = 0 then [0, 255] else [b]
theorem replaceK_zero : ∀ (l : List UInt8) (k : Nat), l.count 0 ≤ k → Lib.replaceK [0] [0, 255] k l = zeroed l
  | [], k, _ => by
    cases k with
    | zero => rfl
    | succ k => simp [Lib.replaceK, Lib.index, zeroed]
  | b :: l, k, hk => by
    by_cases h : b = 0
    · subst h
      simp only [List.count_cons_self] at hk
      obtain ⟨k, rfl⟩ : ∃ j, k = j + 1 := ⟨k - 1, by omega⟩
      have ih := replaceK_zero l k (by omega)
      simp [Lib.replaceK, index_cons, zeroed, ih]
    · rw [List.count_cons_of_ne (by simpa using h)] at hk
      have ih := replaceK_zero l k hk
      have key : Lib.replaceK [0] [0, 255] k (b :: l) = b :: Lib.replaceK [0] [0, 255] k l := by
        cases k with
        | zero => rfl
        | succ k =>
          have hge := Lib.index_ge l [0]
          simp only [Lib.replaceK, index_cons, if_neg h]
          by_cases hm : Lib.index l [0] = -1
          · simp [hm]
          · have e1 : (Lib.index l [0] + 1).toNat = (Lib.index l [0]).toNat + 1 := by omega
            have e2 : ¬ (Lib.index l [0] + 1 = -1) := by omega
            simp [hm, e1, e2]
      rw [key, ih]
      simp [zeroed, h]
theorem replaceAll_zero (s : List UInt8) : Lib.replaceAll s [0] [0, 255] = zeroed s := by
  unfold Lib.replaceAll Lib.replace Lib.replaceNum
  rw [if_neg (by decide), if_pos (by omega)]
  exact replaceK_zero s _ (by rw [Lib.count_one]; exact Nat.le_refl _)
theorem codeText_zeroed : ∀ l : List UInt8, codeText l = (zeroed l).map (fun b => (b.toNat : Int)) ++ [0]
  | [] => rfl
  | b :: l => by
    have := codeText_zeroed l
    unfold codeText
    by_cases h : b = 0
    · subst h
      simp [zeroed] at this ⊢
      exact this
    · simp [zeroed, h] at this ⊢
      exact this
theorem zeroed_length (l : List UInt8) : (zeroed l).length ≤ 2 * l.length := by
  have h1 := codeText_length l
  have h2 := congrArg List.length (codeText_zeroed l)
  simp at h2
  omega
theorem putString_f (l : List Int) (s : ByteArray) (hs : s.size ≤ 65536) (hl : l.length + 140000 < 140737488355328) : code_putString.f l s = some (l ++ codeText s.data.toList) := by
  have hc := Lib.countB_le (⟨#[0]⟩ : ByteArray) (by decide) s.size s (Nat.le_refl _)
  have hr : strings_ReplaceAll.f s (⟨#[0]⟩ : ByteArray) (⟨#[0, 255]⟩ : ByteArray) = some ⟨(zeroed s.data.toList).toArray⟩ := by
    unfold strings_ReplaceAll.f
    have e2 : (⟨#[0, 255]⟩ : ByteArray).size = 2 := rfl
    have e1 : (⟨#[0]⟩ : ByteArray).size = 1 := rfl
    rw [if_pos ⟨by omega, by rw [e1]; omega, by rw [e2]; omega⟩, replaceAll_zero]
  have hz := zeroed_length s.data.toList
  rw [data_length] at hz
  have hsz : (⟨(zeroed s.data.toList).toArray⟩ : ByteArray).size = (zeroed s.data.toList).length := by
    show (zeroed s.data.toList).toArray.size = _
    simp
  have hbl := bytesOf_length ⟨(zeroed s.data.toList).toArray⟩
  unfold code_putString.f
  rw [hr]
  simp only [Option.bind_some]
  rw [if_pos (by omega), if_pos (by simp; omega), codeText_zeroed]
  simp [bytesOf]
theorem ended_ev (s : ByteArray) (hs : s.size ≤ 65536) : Ev (fun k => vellumref02_ended.f k s) (codeText s.data.toList) := by
  have go : ∀ (m : Nat) (i : Nat) (l : List Int), i + m = s.size → l.length ≤ 2 * i → Ev (fun k => vellumref02_ended.l0 k s l (i : Int)) (l ++ codeText (s.data.toList.drop i)) := by
    intro m
    induction m with
    | zero =>
      intro i l hi hl
      refine Ev.from_ 1 fun k => ?_
      simp only [vellumref02_ended.l0]
      rw [if_neg (by omega), if_pos (by omega), List.drop_of_length_le (by rw [data_length]; omega)]
      rfl
    | succ m ih =>
      intro i l hi hl
      have hlt : i < s.data.toList.length := by rw [data_length]; omega
      have hb : bt s i = ((s.data.toList[i]'hlt).toNat : Int) := by
        unfold bt
        simp only [Int.toNat_natCast]
        rw [dif_pos (by omega)]
        rfl
      rw [List.drop_eq_getElem_cons hlt]
      generalize s.data.toList[i]'hlt = b at hb
      have hiff : (bt s i = 0) ↔ b = 0 := by
        rw [hb]
        constructor
        · intro h
          have : b.toNat = 0 := by omega
          exact UInt8.toNat_inj.1 this
        · intro h; subst h; rfl
      by_cases h0 : b = 0
      · refine Ev.step (g := fun k => vellumref02_ended.l0 k s (l ++ [0] ++ [255]) ((i + 1 : Nat) : Int)) (fun k => ?_) ?_
        · have := hiff.2 h0
          simp only [vellumref02_ended.l0, Option.bind_some]
          rw [if_pos (by omega), if_pos (by omega), if_pos (by omega), this, if_pos rfl, if_pos (by simp; omega), wrap64_id (by omega) (by omega)]
          rfl
        · have := ih (i + 1) (l ++ [0] ++ [255]) (by omega) (by simp; omega)
          subst h0
          simpa [codeText] using this
      · refine Ev.step (g := fun k => vellumref02_ended.l0 k s (l ++ [(b.toNat : Int)]) ((i + 1 : Nat) : Int)) (fun k => ?_) ?_
        · have : ¬ bt s i = 0 := fun h => h0 (hiff.1 h)
          simp only [vellumref02_ended.l0, Option.bind_some]
          rw [if_pos (by omega), if_pos (by omega), if_pos (by omega), if_neg this, hb, wrap64_id (by omega) (by omega)]
          rfl
        · have := ih (i + 1) (l ++ [(b.toNat : Int)]) (by omega) (by simp; omega)
          simpa [codeText, h0] using this
  have := go s.size 0 [] (by omega) (by simp)
  simpa [vellumref02_ended.f] using this
/-! ### a value's code, and a list's -/
def codeV (a b : Int) (c : Nat) (d : ByteArray) : List Int :=
  if a = 1 then [2, b % 256] else if a = 2 then 3 :: codeInt b else if a = 3 then 4 :: codeBits (plainF c) else if a = 4 then 5 :: codeText d.data.toList else if a = 5 then 6 :: codeText d.data.toList else [1]
theorem codeBits_length (b : Nat) : (codeBits b).length = 8 := by unfold codeBits; split <;> exact be_length _ _
theorem codeV_length (a b : Int) (c : Nat) (d : ByteArray) (hb : (Lit.int .i64 b).wf = true) (hd : d.size ≤ 65536) : (codeV a b c d).length ≤ 131074 := by
  have h1 := codeInt_length b hb
  have h2 := codeText_length d.data.toList
  have h3 := codeBits_length (plainF c)
  rw [data_length] at h2
  unfold codeV
  repeat' split
  all_goals (simp only [List.length_cons, List.length_nil]; omega)
theorem put_ev (l : List Int) (a b : Int) (c : Nat) (d : ByteArray) (hb : (Lit.int .i64 b).wf = true) (hc : c < 18446744073709551616) (hd : d.size ≤ 65536) (hl : l.length + 200000 < 140737488355328) :
    Ev (fun k => code_put.f k l a b c d) (l ++ codeV a b c d) := by
  simp only [code_put.f, codeV, Option.bind_some]
  by_cases h1 : a = 1
  · rw [if_pos h1]
    exact Ev.pos h1 (Ev.pos (by simp; omega) Ev.pure)
  rw [if_neg h1]
  refine Ev.neg h1 ?_
  by_cases h2 : a = 2
  · rw [if_pos h2]
    refine Ev.pos h2 (Ev.pos (by omega) (Ev.bind (putInt_ev (l ++ [3]) b hb (by simp; omega)) ?_))
    simpa using Ev.pure
  rw [if_neg h2]
  refine Ev.neg h2 ?_
  by_cases h3 : a = 3
  · rw [if_pos h3]
    refine Ev.pos h3 (Ev.pos (by omega) (Ev.bind (v := (a, b, plainF c, d)) (Ev.from_ 1 fun k => by rw [plain_ev, if_pos h3]) (Ev.bind (putFloat_ev (l ++ [4]) (plainF c) (plainF_lt hc) (by simp; omega)) ?_)))
    simpa using Ev.pure
  rw [if_neg h3]
  refine Ev.neg h3 ?_
  by_cases h4 : a = 4
  · rw [if_pos h4, if_pos h4]
    refine Ev.pos (by omega) (Ev.const ?_)
    rw [putString_f _ d hd (by simp; omega)]
    simp
  rw [if_neg h4, if_neg h4]
  by_cases h5 : a = 5
  · rw [if_pos h5, if_pos h5]
    refine Ev.pos (by omega) (Ev.const ?_)
    rw [putString_f _ d hd (by simp; omega)]
    simp
  rw [if_neg h5, if_neg h5]
  exact Ev.pos (by omega) Ev.pure
theorem code_ev (a b : Int) (c : Nat) (d : ByteArray) (ha : 0 ≤ a ∧ a ≤ 5) (hb : (Lit.int .i64 b).wf = true) (hc : c < 18446744073709551616) (hd : d.size ≤ 65536) :
    Ev (fun k => vellumref02_code.f k a b c d) (codeV a b c d) := by
  have e : (wrap64 (a + 1)) % 256 = a + 1 := by rw [wrap64_id (by omega) (by omega)]; omega
  have hI := codeInt_length b hb
  have hT := codeText_length d.data.toList
  rw [data_length] at hT
  have hF := codeBits_length (plainF c)
  simp only [vellumref02_code.f, codeV, Option.bind_some, e]
  by_cases h1 : a = 1
  · rw [if_pos h1]
    refine Ev.pos h1 (Ev.pos (by simp) ?_)
    subst h1
    exact Ev.pure
  rw [if_neg h1]
  refine Ev.neg h1 ?_
  by_cases h2 : a = 2
  · rw [if_pos h2]
    refine Ev.pos h2 (Ev.bind (whole_ev b hb) (Ev.pos (by simp; omega) ?_))
    subst h2
    exact Ev.pure
  rw [if_neg h2]
  refine Ev.neg h2 ?_
  by_cases h3 : a = 3
  · rw [if_pos h3]
    refine Ev.pos h3 (Ev.bind (real_ev c hc) (Ev.pos (by simp; omega) ?_))
    subst h3
    exact Ev.pure
  rw [if_neg h3]
  refine Ev.neg h3 ?_
  by_cases h4 : a = 4
  · rw [if_pos h4]
    refine Ev.pos h4 (Ev.bind (ended_ev d hd) (Ev.pos (by simp; omega) ?_))
    subst h4
    exact Ev.pure
  rw [if_neg h4]
  refine Ev.neg h4 ?_
  by_cases h5 : a = 5
  · rw [if_pos h5]
    refine Ev.pos h5 (Ev.bind (ended_ev d hd) (Ev.pos (by simp; omega) ?_))
    subst h5
    exact Ev.pure
  rw [if_neg h5]
  refine Ev.neg h5 ?_
  obtain rfl : a = 0 := by omega
  exact Ev.pure
/-- What a list of values is coded as: its bytes and the outcome. -/
def chkV (x : S50) : Int := chk x.f0 x.f1 x.f2 x.f3
def codeOf (x : S50) : List Int := codeV x.f0 x.f1 x.f2 x.f3
/-- The code so far, or 'too long'. -/
def build : List Int → List S50 → Option (List Int)
  | acc, [] => some acc
  | acc, x :: xs => if 1024 < (acc ++ codeOf x).length then none else build (acc ++ codeOf x) xs
def encode (xs : List S50) : ByteArray × Int :=
  if xs.all (fun x => chkV x == 0) then (match build [] xs with | none => (⟨#[]⟩, 3) | some l => (strOfNums l, 0)) else (⟨#[]⟩, 10)
theorem strNil : strOfNums [] = (⟨#[]⟩ : ByteArray) := rfl
theorem rd_get (l : List S50) (i : Nat) (x : S50) (h : l[i]? = some x) : rd_T50 l (i : Int) = x := by
  unfold rd_T50
  simp [List.getD, h]
theorem chk_ok {a b : Int} {c : Nat} {d : ByteArray} (h : chk a b c d = 0) : (0 ≤ a ∧ a ≤ 5) ∧ d.size ≤ 65536 := by
  unfold chk at h
  split at h
  · cases h
  · rename_i h1
    split at h
    · cases h
    · rename_i h2
      have : ¬ a < 0 := fun x => h1 (Or.inl x)
      have : ¬ 5 < a := fun x => h1 (Or.inr (Or.inl x))
      constructor
      · omega
      · omega
theorem encode_code (xs : List S50) (hw : ∀ x ∈ xs, wf50 x) (hl : xs.length < 9223372036854775807) : Ev (fun k => code_Encode.f k xs) (encode xs) := by
  have build_ev : ∀ (m i : Nat) (acc : List Int), i + m = xs.length → acc.length ≤ 1024 → (∀ x ∈ xs, chkV x = 0) →
      Ev (fun k => code_Encode.l1 k acc xs (xs.length : Int) (i : Int)) (match build acc (xs.drop i) with | none => (⟨#[]⟩, 3) | some l => (strOfNums l, 0)) := by
    intro m
    induction m with
    | zero =>
      intro i acc hi ha hc
      rw [List.drop_of_length_le (by omega)]
      refine Ev.from_ 1 fun k => ?_
      simp only [code_Encode.l1, build]
      rw [if_neg (by omega)]
    | succ m ih =>
      intro i acc hi ha hc
      have hlt : i < xs.length := by omega
      obtain ⟨x, hx⟩ : ∃ x, xs[i]? = some x := ⟨_, List.getElem?_eq_getElem hlt⟩
      have hmem : x ∈ xs := List.mem_of_getElem? hx
      have hd : xs.drop i = x :: xs.drop (i + 1) := by
        rw [List.drop_eq_getElem_cons hlt]
        congr 1
        exact Option.some.inj ((List.getElem?_eq_getElem hlt).symm.trans hx)
      have hok := chk_ok (hc x hmem)
      obtain ⟨w0, w1, w2, w3⟩ := hw x hmem
      refine Ev.step (g := fun k => (code_put.f k acc x.f0 x.f1 x.f2 x.f3).bind fun t181 => (if (t181.length : Int) > 1024 then (some ((⟨#[]⟩ : ByteArray), 3)) else (code_Encode.l1 k t181 xs (xs.length : Int) ((i + 1 : Nat) : Int)))) (fun k => ?_) ?_
      · simp only [code_Encode.l1]
        rw [if_pos (by omega), if_pos (by omega), if_pos (by omega), rd_get _ _ _ hx, wrap64_id (by omega) (by omega)]
        rfl
      · refine Ev.bind (put_ev acc _ _ _ _ w1 w2 hok.2 (by omega)) ?_
        rw [hd]
        by_cases hlen : 1024 < (acc ++ codeOf x).length
        · refine Ev.pos (by show ((acc ++ codeOf x).length : Int) > 1024; omega) ?_
          simp only [build]
          rw [if_pos hlen]
          exact Ev.pure
        · refine Ev.neg (by show ¬ ((acc ++ codeOf x).length : Int) > 1024; omega) ?_
          simp only [build]
          rw [if_neg hlen]
          exact ih (i + 1) (acc ++ codeOf x) (by omega) (by omega) hc
  have check_ev : ∀ (m i : Nat), i + m = xs.length → (∀ j x, j < i → xs[j]? = some x → chkV x = 0) → Ev (fun k => code_Encode.l0 k xs xs (xs.length : Int) (i : Int)) (encode xs) := by
    intro m
    induction m with
    | zero =>
      intro i hi hc
      have hall : ∀ x ∈ xs, chkV x = 0 := fun x hx => by
        obtain ⟨j, hj⟩ := List.getElem?_of_mem hx
        exact hc j x (by have := (List.getElem?_eq_some_iff.1 hj).1; omega) hj
      refine Ev.step (g := fun k => code_Encode.l1 k ([] : List Int) xs (xs.length : Int) ((0 : Nat) : Int)) (fun k => ?_) ?_
      · simp only [code_Encode.l0]
        rw [if_neg (by omega)]
        rfl
      · have := build_ev xs.length 0 [] (by omega) (by simp) hall
        have e : xs.all (fun x => chkV x == 0) = true := List.all_eq_true.2 fun x hx => by simp [hall x hx]
        unfold encode
        rw [if_pos e]
        simpa using this
    | succ m ih =>
      intro i hi hc
      have hlt : i < xs.length := by omega
      obtain ⟨x, hx⟩ : ∃ x, xs[i]? = some x := ⟨_, List.getElem?_eq_getElem hlt⟩
      have hmem : x ∈ xs := List.mem_of_getElem? hx
      obtain ⟨w0, w1, w2, w3⟩ := hw x hmem
      refine Ev.step (g := fun k => (value_Check.f k x.f0 x.f1 x.f2 x.f3).bind fun t178 => (if t178 = 0 then (code_Encode.l0 k xs xs (xs.length : Int) ((i + 1 : Nat) : Int)) else (some ((⟨#[]⟩ : ByteArray), 10)))) (fun k => ?_) ?_
      · simp only [code_Encode.l0]
        rw [if_pos (by omega), if_pos (by omega), if_pos (by omega), rd_get _ _ _ hx, wrap64_id (by omega) (by omega)]
        rfl
      · refine Ev.bind (Ev.from_ 6 fun k => check_code k _ _ _ _ w3) ?_
        by_cases h0 : chkV x = 0
        · refine Ev.pos h0 (ih (i + 1) (by omega) fun j y hj hy => ?_)
          rcases Nat.lt_or_ge j i with h | h
          · exact hc j y h hy
          · obtain rfl : j = i := by omega
            rw [hx] at hy; cases hy; exact h0
        · refine Ev.neg h0 ?_
          have e : ¬ xs.all (fun x => chkV x == 0) = true := fun h => h0 (by simpa using List.all_eq_true.1 h x hmem)
          unfold encode
          rw [if_neg e]
          exact Ev.pure
  have := check_ev xs.length 0 (by omega) (fun j x hj => by omega)
  simpa [code_Encode.f] using this
theorem encode_ref (xs : List S50) (hw : ∀ x ∈ xs, wf50 x) (hl : xs.length < 9223372036854775807) : Ev (fun k => vellumref02_Encode.f k xs) (encode xs) := by
  have build_ev : ∀ (m i : Nat) (acc : List Int), i + m = xs.length → acc.length ≤ 1024 → (∀ x ∈ xs, chkV x = 0) →
      Ev (fun k => vellumref02_Encode.l1 k xs acc (i : Int)) (match build acc (xs.drop i) with | none => (⟨#[]⟩, 3) | some l => (strOfNums l, 0)) := by
    intro m
    induction m with
    | zero =>
      intro i acc hi ha hc
      rw [List.drop_of_length_le (by omega)]
      refine Ev.from_ 1 fun k => ?_
      simp only [vellumref02_Encode.l1, build]
      rw [if_neg (by omega)]
    | succ m ih =>
      intro i acc hi ha hc
      have hlt : i < xs.length := by omega
      obtain ⟨x, hx⟩ : ∃ x, xs[i]? = some x := ⟨_, List.getElem?_eq_getElem hlt⟩
      have hmem : x ∈ xs := List.mem_of_getElem? hx
      have hd : xs.drop i = x :: xs.drop (i + 1) := by
        rw [List.drop_eq_getElem_cons hlt]
        congr 1
        exact Option.some.inj ((List.getElem?_eq_getElem hlt).symm.trans hx)
      have hok := chk_ok (hc x hmem)
      obtain ⟨w0, w1, w2, w3⟩ := hw x hmem
      have hcl := codeV_length x.f0 x.f1 x.f2 x.f3 w1 hok.2
      refine Ev.step (g := fun k => (vellumref02_code.f k x.f0 x.f1 x.f2 x.f3).bind fun t267 => (if acc.length + t267.length < 140737488355328 then ((some (acc ++ t267 : List Int)).bind fun y270 => (if (y270.length : Int) > 1024 then (some ((⟨#[]⟩ : ByteArray), 3)) else (vellumref02_Encode.l1 k xs y270 ((i + 1 : Nat) : Int)))) else (none))) (fun k => ?_) ?_
      · simp only [vellumref02_Encode.l1]
        rw [if_pos (by omega), if_pos (by omega), rd_get _ _ _ hx, wrap64_id (by omega) (by omega)]
        rfl
      · refine Ev.bind (code_ev _ _ _ _ hok.1 w1 w2 hok.2) ?_
        rw [hd]
        refine Ev.pos (by omega) ?_
        simp only [Option.bind_some]
        by_cases hlen : 1024 < (acc ++ codeOf x).length
        · refine Ev.pos (by show ((acc ++ codeOf x).length : Int) > 1024; omega) ?_
          simp only [build]
          rw [if_pos hlen]
          exact Ev.pure
        · refine Ev.neg (by show ¬ ((acc ++ codeOf x).length : Int) > 1024; omega) ?_
          simp only [build]
          rw [if_neg hlen]
          exact ih (i + 1) (acc ++ codeOf x) (by omega) (by omega) hc
  have check_ev : ∀ (m i : Nat), i + m = xs.length → (∀ j x, j < i → xs[j]? = some x → chkV x = 0) → Ev (fun k => vellumref02_Encode.l0 k xs (i : Int)) (encode xs) := by
    intro m
    induction m with
    | zero =>
      intro i hi hc
      have hall : ∀ x ∈ xs, chkV x = 0 := fun x hx => by
        obtain ⟨j, hj⟩ := List.getElem?_of_mem hx
        exact hc j x (by have := (List.getElem?_eq_some_iff.1 hj).1; omega) hj
      refine Ev.step (g := fun k => vellumref02_Encode.l1 k xs ([] : List Int) ((0 : Nat) : Int)) (fun k => ?_) ?_
      · simp only [vellumref02_Encode.l0]
        rw [if_neg (by omega)]
        rfl
      · have := build_ev xs.length 0 [] (by omega) (by simp) hall
        have e : xs.all (fun x => chkV x == 0) = true := List.all_eq_true.2 fun x hx => by simp [hall x hx]
        unfold encode
        rw [if_pos e]
        simpa using this
    | succ m ih =>
      intro i hi hc
      have hlt : i < xs.length := by omega
      obtain ⟨x, hx⟩ : ∃ x, xs[i]? = some x := ⟨_, List.getElem?_eq_getElem hlt⟩
      have hmem : x ∈ xs := List.mem_of_getElem? hx
      obtain ⟨w0, w1, w2, w3⟩ := hw x hmem
      refine Ev.step (g := fun k => (vellumref01_Check.f k x.f0 x.f1 x.f2 x.f3).bind fun t178 => (if t178 = 0 then (vellumref02_Encode.l0 k xs ((i + 1 : Nat) : Int)) else (some ((⟨#[]⟩ : ByteArray), 10)))) (fun k => ?_) ?_
      · simp only [vellumref02_Encode.l0]
        rw [if_pos (by omega), if_pos (by omega), rd_get _ _ _ hx, wrap64_id (by omega) (by omega)]
        rfl
      · refine Ev.bind (Ev.from_ 6 fun k => check_ref k _ _ _ _ w3) ?_
        by_cases h0 : chkV x = 0
        · refine Ev.pos h0 (ih (i + 1) (by omega) fun j y hj hy => ?_)
          rcases Nat.lt_or_ge j i with h | h
          · exact hc j y h hy
          · obtain rfl : j = i := by omega
            rw [hx] at hy; cases hy; exact h0
        · refine Ev.neg h0 ?_
          have e : ¬ xs.all (fun x => chkV x == 0) = true := fun h => h0 (by simpa using List.all_eq_true.1 h x hmem)
          unfold encode
          rw [if_neg e]
          exact Ev.pure
  have := check_ev xs.length 0 (by omega) (fun j x hj => by omega)
  simpa [vellumref02_Encode.f] using this
end Go.Proofs.YtpiifdbicibelaaDoor.Pure
