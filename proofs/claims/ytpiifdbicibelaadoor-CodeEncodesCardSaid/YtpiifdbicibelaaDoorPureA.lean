/- Plain laws, first part: what holds from some number of rounds on; whole numbers as bytes; the value's check and code as the program and the reference compute them. -/
import Derived.Test.YtpiifdbicibelaaDoorPAx9
import Derived.Test.YtpiifdbicibelaaDoorOpenK
import Derived.Lib.VarintBits
namespace Go.Proofs.YtpiifdbicibelaaDoor.Pure
open Go.RowKit Go.Proofs Go.Proofs.YtpiifdbicibelaaDoorW.PrintWords Go.Proofs.YtpiifdbicibelaaDoorW.PrintLast Go.Proofs.YtpiifdbicibelaaDoorW.PrintMore Go.Proofs.YtpiifdbicibelaaDoor.PA Go.Proofs.YtpiifdbicibelaaDoor.OpenK
set_option linter.unusedVariables false
/-- From some number of rounds on, f answers v. -/
def Ev {α : Type} (f : Nat → Option α) (v : α) : Prop := ∃ k0, ∀ k, k0 ≤ k → f k = some v
namespace Ev
variable {α β : Type} {f g : Nat → Option α} {v : α}
theorem pure {v : α} : Ev (fun _ => some v) v := ⟨0, fun _ _ => rfl⟩
theorem const {o : Option α} (h : o = some v) : Ev (fun _ => o) v := ⟨0, fun _ _ => h⟩
theorem bind {F : Nat → α → Option β} {b : β} (h : Ev f v) (h2 : Ev (fun k => F k v) b) : Ev (fun k => (f k).bind (F k)) b := by
  obtain ⟨k0, h⟩ := h
  obtain ⟨k1, h2⟩ := h2
  exact ⟨max k0 k1, fun k hk => by show (f k).bind (F k) = some b; rw [h k (by omega)]; exact h2 k (by omega)⟩
theorem step (h : ∀ k, f (k + 1) = g k) (hg : Ev g v) : Ev f v := by
  obtain ⟨k0, hg⟩ := hg
  refine ⟨k0 + 1, fun k hk => ?_⟩
  obtain ⟨j, rfl⟩ : ∃ j, k = j + 1 := ⟨k - 1, by omega⟩
  rw [h]; exact hg j (by omega)
theorem from_ (n : Nat) (h : ∀ k, f (k + n) = some v) : Ev f v := ⟨n, fun k hk => by have := h (k - n); rwa [Nat.sub_add_cancel hk] at this⟩
theorem congr (h : ∀ k, f k = g k) (hg : Ev g v) : Ev f v := by obtain ⟨k0, hg⟩ := hg; exact ⟨k0, fun k hk => by rw [h]; exact hg k hk⟩
theorem pos {c : Prop} [Decidable c] (hc : c) (h : Ev f v) : Ev (fun k => if c then f k else g k) v := congr (fun k => if_pos hc) h
theorem neg {c : Prop} [Decidable c] (hc : ¬ c) (h : Ev g v) : Ev (fun k => if c then f k else g k) v := congr (fun k => if_neg hc) h
theorem ex (h : Ev f v) : ∃ k, f k = some v := by obtain ⟨k0, h⟩ := h; exact ⟨k0, h k0 (Nat.le_refl _)⟩
end Ev
/-! ### wrap64 within its range -/
theorem wrap64_id {n : Int} (h0 : -9223372036854775808 ≤ n) (h1 : n < 9223372036854775808) : wrap64 n = n := by unfold wrap64; omega
theorem u64_wrap (n : Int) : IntKind.u64.wrap n = n % 18446744073709551616 := by
  simp [IntKind.wrap, IntKind.signed, IntKind.bits]
theorem u64_wrap_id {n : Int} (h0 : 0 ≤ n) (h1 : n < 18446744073709551616) : IntKind.u64.wrap n = n := by rw [u64_wrap]; omega
/-! ### bytes of a number, the greatest first -/
def be (u : Int) : Nat → List Int
  | 0 => []
  | n + 1 => (u / 256 ^ n) % 256 :: be u n
theorem be_length (u : Int) : ∀ n, (be u n).length = n
  | 0 => rfl
  | n + 1 => by simp [be, be_length u n]
/-- How many bytes a number has. -/
def nb (u : Nat) : Nat := if h : u = 0 then 0 else 1 + nb (u / 256)
decreasing_by omega
theorem nb_le (n : Nat) : ∀ u, u < 256 ^ n → nb u ≤ n := by
  induction n with
  | zero => intro u h; simp at h; subst h; unfold nb; simp
  | succ n ih =>
    intro u h
    unfold nb
    split
    · omega
    · have := ih (u / 256) (by rw [Nat.pow_succ] at h; omega)
      omega
theorem nb_pos {u : Nat} (h : u ≠ 0) : 1 ≤ nb u := by unfold nb; rw [dif_neg h]; omega
theorem pow256 : ∀ n : Nat, (2 : Int) ^ (8 * n) = 256 ^ n
  | 0 => rfl
  | n + 1 => by rw [Nat.mul_add, Int.pow_add, pow256 n]; rfl
theorem shr_be {u : Int} {n : Nat} (hn : n < 8) : (shr .u64 u (8 * (n : Int))) = u / 256 ^ n := by
  unfold shr
  have e : min (8 * (n : Int)).toNat IntKind.u64.bits = 8 * n := by
    have : IntKind.u64.bits = 64 := rfl
    omega
  rw [e, pow256]
theorem high_l0 (u : Int) : ∀ (n : Nat) (l : List Int), n ≤ 8 → l.length + 8 < 140737488355328 → Ev (fun k => code_high.l0 k l u ((n : Int) - 1)) (l ++ be u n) := by
  have go : ∀ (n : Nat) (l : List Int), n ≤ 8 → l.length + n < 140737488355328 → Ev (fun k => code_high.l0 k l u ((n : Int) - 1)) (l ++ be u n) := by
    intro n
    induction n with
    | zero =>
      intro l _ _
      refine Ev.from_ 1 fun k => ?_
      simp [code_high.l0, be]
    | succ n ih =>
      intro l hn hl
      have e : ((n + 1 : Nat) : Int) - 1 = n := by omega
      rw [e]
      refine Ev.step (g := fun k => code_high.l0 k (l ++ [u / 256 ^ n % 256]) u ((n : Int) - 1)) (fun k => ?_) ?_
      · simp only [code_high.l0]
        rw [if_pos (by omega), wrap64_id (n := 8 * (n : Int)) (by omega) (by omega), if_pos (by omega), if_pos (by omega), shr_be (by omega), wrap64_id (by omega) (by omega)]
      · have := ih (l ++ [u / 256 ^ n % 256]) (by omega) (by simp; omega)
        simpa [be] using this
  exact fun n l hn hl => go n l hn (by omega)
theorem high_ev (u : Int) (n : Nat) (l : List Int) (hn : n ≤ 8) (hl : l.length + 8 < 140737488355328) : Ev (fun k => code_high.f k l u n) (l ++ be u n) := by
  refine Ev.congr (fun k => ?_) (high_l0 u n l hn hl)
  unfold code_high.f
  rw [wrap64_id (by omega) (by omega)]
theorem big_ev (u : Int) (n : Nat) (hn : n ≤ 8) : Ev (fun k => vellumref02_big.f k u n) (be u n) := by
  have go : ∀ (n : Nat) (l : List Int), n ≤ 8 → l.length + n < 140737488355328 → Ev (fun k => vellumref02_big.l0 k u l ((n : Int) - 1)) (l ++ be u n) := by
    intro n
    induction n with
    | zero =>
      intro l _ _
      refine Ev.from_ 1 fun k => ?_
      simp [vellumref02_big.l0, be]
    | succ n ih =>
      intro l hn hl
      have e : ((n + 1 : Nat) : Int) - 1 = n := by omega
      rw [e]
      refine Ev.step (g := fun k => vellumref02_big.l0 k u (l ++ [u / 256 ^ n % 256]) ((n : Int) - 1)) (fun k => ?_) ?_
      · simp only [vellumref02_big.l0]
        rw [if_pos (by omega), wrap64_id (n := 8 * (n : Int)) (by omega) (by omega), u64_wrap_id (n := 8 * (n : Int)) (by omega) (by omega), if_pos (by omega), if_pos (by omega), shr_be (by omega), wrap64_id (by omega) (by omega)]
      · have := ih (l ++ [u / 256 ^ n % 256]) (by omega) (by simp; omega)
        simpa [be] using this
  refine Ev.congr (fun k => ?_) (go n [] hn (by simp; omega))
  unfold vellumref02_big.f
  rw [wrap64_id (by omega) (by omega)]
/-! ### the size -/
theorem size_ref (u : Nat) (hu : u < 18446744073709551616) : Ev (fun k => vellumref02_size.f k (u : Int)) (nb u : Int) := by
  have go : ∀ (m u n : Nat), u < 256 ^ m → n + m ≤ 8 → Ev (fun k => vellumref02_size.l0 k (u : Int) (n : Int)) ((n + nb u : Nat) : Int) := by
    intro m
    induction m with
    | zero =>
      intro u n h _
      obtain rfl : u = 0 := by simpa using h
      refine Ev.from_ 1 fun k => ?_
      unfold nb
      simp [vellumref02_size.l0]
    | succ m ih =>
      intro u n h hn
      by_cases h0 : u = 0
      · subst h0
        refine Ev.from_ 1 fun k => ?_
        unfold nb
        simp [vellumref02_size.l0]
      · refine Ev.step (g := fun k => vellumref02_size.l0 k ((u / 256 : Nat) : Int) ((n + 1 : Nat) : Int)) (fun k => ?_) ?_
        · simp only [vellumref02_size.l0]
          rw [if_pos (by omega), wrap64_id (by omega) (by omega)]
          rfl
        · have := ih (u / 256) (n + 1) (by rw [Nat.pow_succ] at h; omega) (by omega)
          have e : nb u = 1 + nb (u / 256) := by rw [nb, dif_neg h0]
          rw [e]
          have e2 : n + (1 + nb (u / 256)) = n + 1 + nb (u / 256) := by omega
          rw [e2]
          exact this
  have := go 8 u 0 (by simpa using hu) (by omega)
  simpa [vellumref02_size.f] using this
theorem bitLen_nb (u : Nat) (hu : u < 18446744073709551616) : (Lib.bitLen u + 7) / 8 = nb u := by
  have aux : ∀ (m f u : Nat), u < 256 ^ m → 8 * m ≤ f → (Lib.bitLenAux f u + 7) / 8 = nb u := by
    intro m
    induction m with
    | zero =>
      intro f u h _
      obtain rfl : u = 0 := by simpa using h
      unfold nb
      cases f <;> simp [Lib.bitLenAux]
    | succ m ih =>
      intro f u h hf
      by_cases h0 : u = 0
      · subst h0
        unfold nb
        cases f <;> simp [Lib.bitLenAux]
      · rw [nb, dif_neg h0]
        have hlt : u / 256 < 256 ^ m := by rw [Nat.pow_succ] at h; omega
        obtain ⟨f, rfl⟩ : ∃ g, f = g + 8 := ⟨f - 8, by omega⟩
        have := ih f (u / 256) hlt (by omega)
        have z : ∀ g, Lib.bitLenAux g 0 = 0 := fun g => by cases g <;> simp [Lib.bitLenAux]
        have st : ∀ g x, x ≠ 0 → Lib.bitLenAux (g + 1) x = 1 + Lib.bitLenAux g (x / 2) := fun g x hx => by simp [Lib.bitLenAux, hx]
        by_cases h8 : u / 256 = 0
        · rw [h8, z] at this
          have hb : 1 ≤ Lib.bitLenAux (f + 8) u ∧ Lib.bitLenAux (f + 8) u ≤ 8 := by
            have step : ∀ (j g x : Nat), x < 2 ^ j → Lib.bitLenAux (g + j) x ≤ j := by
              intro j
              induction j with
              | zero => intro g x hx; obtain rfl : x = 0 := by simpa using hx
                        rw [z]; omega
              | succ j ihj =>
                intro g x hx
                by_cases hx0 : x = 0
                · subst hx0; rw [z]; omega
                · rw [← Nat.add_assoc, st _ _ hx0]
                  have := ihj g (x / 2) (by rw [Nat.pow_succ] at hx; omega)
                  omega
            refine ⟨?_, step 8 f u (by omega)⟩
            rw [st _ _ h0]; omega
          have hnb : nb (u / 256) = 0 := by rw [h8]; unfold nb; simp
          rw [hnb]
          omega
        · have e : Lib.bitLenAux (f + 8) u = 8 + Lib.bitLenAux f (u / 256) := by
            rw [st (f + 7) u h0, st (f + 6) (u / 2) (by omega), st (f + 5) (u / 2 / 2) (by omega), st (f + 4) (u / 2 / 2 / 2) (by omega), st (f + 3) (u / 2 / 2 / 2 / 2) (by omega),
              st (f + 2) (u / 2 / 2 / 2 / 2 / 2) (by omega), st (f + 1) (u / 2 / 2 / 2 / 2 / 2 / 2) (by omega), st f (u / 2 / 2 / 2 / 2 / 2 / 2 / 2) (by omega)]
            have : u / 2 / 2 / 2 / 2 / 2 / 2 / 2 / 2 = u / 256 := by omega
            rw [this]; omega
          rw [e]; omega
  exact aux 8 64 u (by simpa using hu) (by omega)
theorem size_code (u : Nat) (hu : u < 18446744073709551616) : code_size.f (u : Int) = some (nb u : Int) := by
  unfold code_size.f bits_Len64.f
  rw [if_pos (by omega)]
  have h64 : Lib.bitLen u ≤ 64 := by
    have := bitLen_nb u hu
    have := nb_le 8 u (by simpa using hu)
    omega
  simp only [Option.bind_some, Int.toNat_natCast]
  rw [wrap64_id (n := (Lib.bitLen u : Int) + 7) (by omega) (by omega)]
  have e : Int.tdiv ((Lib.bitLen u : Int) + 7) 8 = (nb u : Int) := by
    rw [← bitLen_nb u hu, Int.tdiv_eq_ediv_of_nonneg (by omega)]
    omega
  have := nb_le 8 u (by simpa using hu)
  rw [e, wrap64_id (by omega) (by omega)]
theorem not64_eq (x : Int) (h0 : 0 ≤ x) (h1 : x < 18446744073709551616) : not64 x = 18446744073709551615 - x := by
  have e : not64 x = IntKind.u64.wrap (((BitVec.ofInt 64 18446744073709551615) ^^^ (BitVec.ofInt 64 x)).toNat : Int) := rfl
  have e1 : BitVec.ofInt 64 18446744073709551615 = BitVec.allOnes 64 := by decide
  have e2 : (BitVec.allOnes 64 ^^^ BitVec.ofInt 64 x) = ~~~ (BitVec.ofInt 64 x) := BitVec.allOnes_xor
  rw [e, e1]
  rw [e2, BitVec.toNat_not, BitVec.toNat_ofInt, u64_wrap]
  have : x % ((2 ^ 64 : Nat) : Int) = x := by omega
  rw [this]
  omega
theorem or_top (x : Int) (h0 : 0 ≤ x) (h1 : x < 9223372036854775808) : Go.bits .or .u64 x 9223372036854775808 = x + 9223372036854775808 := by
  have : Go.bits .or .u64 x 9223372036854775808 = IntKind.u64.wrap (((BitVec.ofInt 64 x) ||| (BitVec.ofInt 64 9223372036854775808)).toNat : Int) := rfl
  rw [this, BitVec.toNat_or, BitVec.toNat_ofInt, BitVec.toNat_ofInt, u64_wrap]
  have e1 : (x % ((2 ^ 64 : Nat) : Int)).toNat = x.toNat := by omega
  have e2 : ((9223372036854775808 : Int) % ((2 ^ 64 : Nat) : Int)).toNat = 2 ^ 63 * 1 := by decide
  rw [e1, e2, Nat.or_comm, ← Nat.two_pow_add_eq_or_of_lt (by omega)]
  omega
theorem xor_top (x : Int) (h0 : 0 ≤ x) (h1 : x < 9223372036854775808) : Go.bits .xor .u64 x 9223372036854775808 = x + 9223372036854775808 := by
  rw [← or_top x h0 h1]
  have e1 : Go.bits .xor .u64 x 9223372036854775808 = IntKind.u64.wrap (((BitVec.ofInt 64 x) ^^^ (BitVec.ofInt 64 9223372036854775808)).toNat : Int) := rfl
  have e2 : Go.bits .or .u64 x 9223372036854775808 = IntKind.u64.wrap (((BitVec.ofInt 64 x) ||| (BitVec.ofInt 64 9223372036854775808)).toNat : Int) := rfl
  rw [e1, e2]
  have e3 : ((9223372036854775808 : Int) % ((2 ^ 64 : Nat) : Int)).toNat = 2 ^ 63 := by decide
  have e4 : (x % ((2 ^ 64 : Nat) : Int)).toNat = x.toNat := by omega
  rw [BitVec.toNat_or, BitVec.toNat_xor, BitVec.toNat_ofInt, BitVec.toNat_ofInt, e3, e4]
  congr 2
  apply Nat.eq_of_testBit_eq
  intro i
  rw [Nat.testBit_xor, Nat.testBit_or, Nat.testBit_two_pow]
  by_cases h : 63 = i
  · subst h
    have : x.toNat.testBit 63 = false := Nat.testBit_lt_two_pow (by omega)
    rw [this]; rfl
  · simp [h]
/-! ### a value's check -/
def chk (a b : Int) (c : Nat) (d : ByteArray) : Int :=
  if a < 0 ∨ 5 < a ∨ (a = 1 ∧ b ≠ 0 ∧ b ≠ 1) ∨ (a ≠ 1 ∧ a ≠ 2 ∧ b ≠ 0) ∨ (a ≠ 3 ∧ c ≠ 0) ∨ (a ≠ 4 ∧ a ≠ 5 ∧ d.toList ≠ []) ∨ (a = 4 ∧ Lib.validD d.data.toList = false) then 10
  else if (d.size : Int) > 65536 then 3 else 0
theorem nat_int_zero (c : Nat) : (((c : Nat) : Int) != 0) = decide (c ≠ 0) := by
  by_cases h : c = 0 <;> simp [h]
theorem valid_f (d : ByteArray) (h : d.size ≤ 140737488351232) : utf8_ValidString.f d = some (Lib.validD d.data.toList) := by
  unfold utf8_ValidString.f; rw [if_pos (by omega)]
theorem check_code (k : Nat) (a b : Int) (c : Nat) (d : ByteArray) (h : d.size ≤ 140737488351232) : value_Check.f (k + 6) a b c d = some (chk a b c d) := by
  have hc := nat_int_zero c
  have hv := valid_f d h
  unfold value_Check.f chk
  simp only [value_Check.j0, value_Check.j1, value_Check.j2, value_Check.j3, value_Check.j4, value_Check.j5, hv, hc, Option.bind_some]
  by_cases h1 : a < 0 <;> by_cases h2 : 5 < a <;> by_cases h3 : a = 1 <;> by_cases h4 : a = 2 <;> by_cases h5 : a = 3 <;> by_cases h6 : a = 4 <;> by_cases h7 : a = 5 <;>
    first
    | (exfalso; omega)
    | (by_cases hb : b = 0 <;> by_cases hb1 : b = 1 <;> by_cases hc0 : c = 0 <;> by_cases hd : d.toList = [] <;> by_cases hV : Lib.validD d.data.toList = true <;> simp_all <;> (try (split <;> rfl)) <;> (try (obtain rfl : a = 0 := by omega) <;> simp <;> split <;> rfl))
theorem check_ref (k : Nat) (a b : Int) (c : Nat) (d : ByteArray) (h : d.size ≤ 140737488351232) : vellumref01_Check.f (k + 6) a b c d = some (chk a b c d) := by
  have hc := nat_int_zero c
  have hv := valid_f d h
  unfold vellumref01_Check.f chk
  simp only [vellumref01_Check.j0, vellumref01_Check.j1, vellumref01_Check.j2, vellumref01_Check.j3, vellumref01_Check.j4, hv, hc, Option.bind_some]
  by_cases h1 : a < 0 <;> by_cases h2 : 5 < a <;> by_cases h3 : a = 1 <;> by_cases h4 : a = 2 <;> by_cases h5 : a = 3 <;> by_cases h6 : a = 4 <;> by_cases h7 : a = 5 <;>
    first
    | (exfalso; omega)
    | (by_cases hb : b = 0 <;> by_cases hb1 : b = 1 <;> by_cases hc0 : c = 0 <;> by_cases hd : d.toList = [] <;> by_cases hV : Lib.validD d.data.toList = true <;> simp_all <;> (try (split <;> rfl)) <;> (try (obtain rfl : a = 0 := by omega) <;> simp <;> split <;> rfl))
/-! ### a value's code -/
/-- A whole number's code: a byte that tells sign and size, then the bytes. -/
def codeInt (n : Int) : List Int :=
  if 0 ≤ n then (128 + (nb n.toNat : Int)) :: be n (nb n.toNat)
  else (128 - (max (nb (-(n + 1)).toNat) 1 : Nat) : Int) :: be (18446744073709551615 - -(n + 1)) (max (nb (-(n + 1)).toNat) 1)
/-- A float's code: its bits, the order of the bits made the order of the numbers. -/
def codeBits (b : Nat) : List Int := if b < 9223372036854775808 then be ((b : Int) + 9223372036854775808) 8 else be (18446744073709551615 - (b : Int)) 8
/-- The float that stands for all that are the same to the order. -/
def plainF (b : Nat) : Nat := if feq b 0 = true then 0 else if feq b b = true then b else 9221120237041090560
/-- A text's code: each zero byte is followed by 255; a zero ends it. -/
def codeText : List UInt8 → List Int
  | [] => [0]
  | b :: l => if b = 0 then 0 :: 255 :: codeText l else (b.toNat : Int) :: codeText l
theorem codeText_length : ∀ l : List UInt8, (codeText l).length ≤ 2 * l.length + 1
  | [] => by simp [codeText]
  | b :: l => by
    have := codeText_length l
    simp only [codeText]
    split <;> simp <;> omega
theorem isInt_range {n : Int} (h : (Lit.int .i64 n).wf = true) : -9223372036854775808 ≤ n ∧ n ≤ 9223372036854775807 := by
  simpa [Lit.wf, IntKind.min, IntKind.max, IntKind.signed, IntKind.bits] using h
theorem putInt_ev (l : List Int) (n : Int) (hn : (Lit.int .i64 n).wf = true) (hl : l.length + 10 < 140737488355328) : Ev (fun k => code_putInt.f k l n) (l ++ codeInt n) := by
  obtain ⟨h0, h1⟩ := isInt_range hn
  unfold codeInt
  by_cases hp : 0 ≤ n
  · rw [if_pos hp]
    have hu : IntKind.u64.wrap n = ((n.toNat : Nat) : Int) := by rw [u64_wrap_id hp (by omega)]; omega
    have hnb := nb_le 8 n.toNat (by omega)
    have e2 : (wrap64 (128 + (nb n.toNat : Int))) % 256 = 128 + (nb n.toNat : Int) := by rw [wrap64_id (by omega) (by omega)]; omega
    have := high_ev (n.toNat : Int) (nb n.toNat) (l ++ [128 + (nb n.toNat : Int)]) hnb (by simp; omega)
    refine Ev.congr (g := fun k => (code_high.f k (l ++ [128 + (nb n.toNat : Int)]) (n.toNat : Int) (nb n.toNat : Int)).bind fun t => some t) (fun k => ?_) ?_
    · simp only [code_putInt.f]
      rw [if_pos hp, hu, size_code _ (by omega)]
      simp only [Option.bind_some]
      rw [if_pos (by omega), e2]
    · refine Ev.bind this ?_
      have e : ((n.toNat : Nat) : Int) = n := by omega
      rw [e]
      simpa using Ev.pure
  · rw [if_neg hp]
    have hw : wrap64 (-(wrap64 (n + 1))) = -(n + 1) := by rw [wrap64_id (n := n + 1) (by omega) (by omega), wrap64_id (by omega) (by omega)]
    have hu : IntKind.u64.wrap (wrap64 (-(wrap64 (n + 1)))) = (((-(n + 1)).toNat : Nat) : Int) := by rw [hw, u64_wrap_id (by omega) (by omega)]; omega
    have hnb := nb_le 8 (-(n + 1)).toNat (by omega)
    generalize hu' : (-(n + 1)).toNat = u at *
    have hmx : mx (nb u : Int) 1 = ((max (nb u) 1 : Nat) : Int) := by unfold mx; split <;> omega
    have e2 : (wrap64 (128 - ((max (nb u) 1 : Nat) : Int))) % 256 = 128 - ((max (nb u) 1 : Nat) : Int) := by rw [wrap64_id (by omega) (by omega)]; omega
    have := high_ev (18446744073709551615 - (u : Int)) (max (nb u) 1) (l ++ [128 - ((max (nb u) 1 : Nat) : Int)]) (by omega) (by simp; omega)
    refine Ev.congr (g := fun k => (code_high.f k (l ++ [128 - ((max (nb u) 1 : Nat) : Int)]) (18446744073709551615 - (u : Int)) ((max (nb u) 1 : Nat) : Int)).bind fun t => some t) (fun k => ?_) ?_
    · simp only [code_putInt.f]
      rw [if_neg (by omega), hu, size_code _ (by omega)]
      simp only [Option.bind_some]
      rw [if_pos (by omega), hmx, e2, not64_eq _ (by omega) (by omega)]
    · refine Ev.bind this ?_
      have e : ((u : Nat) : Int) = -(n + 1) := by omega
      rw [e]
      simpa using Ev.pure
theorem whole_ev (n : Int) (hn : (Lit.int .i64 n).wf = true) : Ev (fun k => vellumref02_whole.f k n) (codeInt n) := by
  obtain ⟨h0, h1⟩ := isInt_range hn
  unfold codeInt
  by_cases hp : 0 ≤ n
  · rw [if_pos hp]
    have hu : IntKind.u64.wrap n = ((n.toNat : Nat) : Int) := by rw [u64_wrap_id hp (by omega)]; omega
    have hnb := nb_le 8 n.toNat (by omega)
    have e2 : (wrap64 (128 + (nb n.toNat : Int))) % 256 = 128 + (nb n.toNat : Int) := by rw [wrap64_id (by omega) (by omega)]; omega
    have hb := big_ev (n.toNat : Int) (nb n.toNat) hnb
    have hl := be_length (n.toNat : Int) (nb n.toNat)
    simp only [vellumref02_whole.f, ge_iff_le, hp, if_true, hu]
    refine Ev.bind (size_ref _ (by omega)) ?_
    simp only [e2, Option.bind_some, List.nil_append, List.length_nil, List.length_singleton]
    refine Ev.pos (by omega) (Ev.bind hb ?_)
    rw [hl, if_pos (by omega)]
    have e : ((n.toNat : Nat) : Int) = n := by omega
    rw [e]
    exact Ev.pure
  · rw [if_neg hp]
    have hw : wrap64 (-(wrap64 (n + 1))) = -(n + 1) := by rw [wrap64_id (n := n + 1) (by omega) (by omega), wrap64_id (by omega) (by omega)]
    have hu : IntKind.u64.wrap (wrap64 (-(wrap64 (n + 1)))) = (((-(n + 1)).toNat : Nat) : Int) := by rw [hw, u64_wrap_id (by omega) (by omega)]; omega
    have hnb := nb_le 8 (-(n + 1)).toNat (by omega)
    have eu : (((-(n + 1)).toNat : Nat) : Int) = -(n + 1) := by omega
    generalize hu' : (-(n + 1)).toNat = u at *
    simp only [vellumref02_whole.f, ge_iff_le, hp, if_false, hu]
    refine Ev.bind (size_ref _ (by omega)) ?_
    by_cases h0 : nb u = 0
    · have hb := big_ev (18446744073709551615 - (u : Int)) 1 (by omega)
      have hl := be_length (18446744073709551615 - (u : Int)) 1
      simp only [h0, Int.ofNat_zero, if_true, Option.bind_some, List.nil_append, List.length_nil, List.length_singleton, not64_eq (u : Int) (by omega) (by omega)]
      refine Ev.pos (by omega) (Ev.bind hb ?_)
      rw [hl, if_pos (by omega), ← eu]
      exact Ev.pure
    · have hb := big_ev (18446744073709551615 - (u : Int)) (nb u) (by omega)
      have hl := be_length (18446744073709551615 - (u : Int)) (nb u)
      have e2 : (wrap64 (128 - (nb u : Int))) % 256 = 128 - (nb u : Int) := by rw [wrap64_id (by omega) (by omega)]; omega
      have hm : max (nb u) 1 = nb u := by omega
      have h0' : ¬ ((nb u : Int) = 0) := by omega
      simp only [h0', e2, if_false, Option.bind_some, List.nil_append, List.length_nil, List.length_singleton, not64_eq (u : Int) (by omega) (by omega)]
      refine Ev.pos (by omega) (Ev.bind hb ?_)
      rw [hl, if_pos (by omega), ← eu, hm]
      exact Ev.pure
theorem codeInt_length (n : Int) (hn : (Lit.int .i64 n).wf = true) : (codeInt n).length ≤ 9 := by
  obtain ⟨h0, h1⟩ := isInt_range hn
  have h2 := nb_le 8 n.toNat (by omega)
  have h3 := nb_le 8 (-(n + 1)).toNat (by omega)
  unfold codeInt
  split <;> simp [be_length] <;> omega
end Go.Proofs.YtpiifdbicibelaaDoor.Pure
