/- Part 2 of what the proof of RowTurns stands on: words for walks, printed functions with their contracts, plain laws. -/
import Derived.Test.YtpiifdbicibelaaDoorKRowTurns0
section
namespace Go.Proofs.YtpiifdbicibelaaDoor.PA
open Go.RowKit Go.Proofs.YtpiifdbicibelaaDoorW.PrintWords Go.Proofs.YtpiifdbicibelaaDoorW.PrintLast Go.Proofs.YtpiifdbicibelaaDoorW.PrintMore
attribute [local go_sem] max2_int min2_int max_two min_two max_three min_three max_four min_four
set_option linter.unusedVariables false
set_option linter.unusedSimpArgs false
end Go.Proofs.YtpiifdbicibelaaDoor.PA
end
section
namespace Go.Proofs.YtpiifdbicibelaaDoor.Pure
open Go.RowKit Go.Proofs Go.Proofs.YtpiifdbicibelaaDoorW.PrintWords Go.Proofs.YtpiifdbicibelaaDoorW.PrintLast Go.Proofs.YtpiifdbicibelaaDoorW.PrintMore Go.Proofs.YtpiifdbicibelaaDoor.PA Go.Proofs.YtpiifdbicibelaaDoor.OpenK
set_option linter.unusedVariables false
/-- From some number of rounds on, f answers v. -/
def Ev {α : Type} (f : Nat → Option α) (v : α) : Prop := ∃ k0, ∀ k, k0 ≤ k → f k = some v
namespace Ev
variable {α β : Type} {f g : Nat → Option α} {v : α}
theorem pure {v : α} : Ev (fun _ => some v) v := ⟨0, fun _ _ => rfl⟩
theorem const {o : Option α} (h : o = some v) : Ev (fun _ => o) v := ⟨0, fun _ _ => h⟩
theorem bind {F : Nat → α → Option β} {b : β} (h : Ev f v) (h2 : Ev (fun k => F k v) b) : Ev (fun k => (f k).bind (F k)) b := by
  obtain ⟨k0, h⟩ := h
  obtain ⟨k1, h2⟩ := h2
  exact ⟨max k0 k1, fun k hk => by show (f k).bind (F k) = some b; rw [h k (by omega)]; exact h2 k (by omega)⟩
theorem step (h : ∀ k, f (k + 1) = g k) (hg : Ev g v) : Ev f v := by
  obtain ⟨k0, hg⟩ := hg
  refine ⟨k0 + 1, fun k hk => ?_⟩
  obtain ⟨j, rfl⟩ : ∃ j, k = j + 1 := ⟨k - 1, by omega⟩
  rw [h]; exact hg j (by omega)
theorem from_ (n : Nat) (h : ∀ k, f (k + n) = some v) : Ev f v := ⟨n, fun k hk => by have := h (k - n); rwa [Nat.sub_add_cancel hk] at this⟩
theorem congr (h : ∀ k, f k = g k) (hg : Ev g v) : Ev f v := by obtain ⟨k0, hg⟩ := hg; exact ⟨k0, fun k hk => by rw [h]; exact hg k hk⟩
theorem pos {c : Prop} [Decidable c] (hc : c) (h : Ev f v) : Ev (fun k => if c then f k else g k) v := congr (fun k => if_pos hc) h
theorem neg {c : Prop} [Decidable c] (hc : ¬ c) (h : Ev g v) : Ev (fun k => if c then f k else g k) v := congr (fun k => if_neg hc) h
theorem ex (h : Ev f v) : ∃ k, f k = some v := by obtain ⟨k0, h⟩ := h; exact ⟨k0, h k0 (Nat.le_refl _)⟩
end Ev
theorem wrap64_id {n : Int} (h0 : -9223372036854775808 ≤ n) (h1 : n < 9223372036854775808) : wrap64 n = n := by unfold wrap64; omega
theorem u64_wrap (n : Int) : IntKind.u64.wrap n = n % 18446744073709551616 := by
  simp [IntKind.wrap, IntKind.signed, IntKind.bits]
theorem u64_wrap_id {n : Int} (h0 : 0 ≤ n) (h1 : n < 18446744073709551616) : IntKind.u64.wrap n = n := by rw [u64_wrap]; omega
def be (u : Int) : Nat → List Int
  | 0 => []
  | n + 1 => (u / 256 ^ n) % 256 :: be u n
theorem be_length (u : Int) : ∀ n, (be u n).length = n
  | 0 => rfl
  | n + 1 => by simp [be, be_length u n]
theorem pow256 : ∀ n : Nat, (2 : Int) ^ (8 * n) = 256 ^ n
  | 0 => rfl
  | n + 1 => by rw [Nat.mul_add, Int.pow_add, pow256 n]; rfl
theorem shr_be {u : Int} {n : Nat} (hn : n < 8) : (shr .u64 u (8 * (n : Int))) = u / 256 ^ n := by
  unfold shr
  have e : min (8 * (n : Int)).toNat IntKind.u64.bits = 8 * n := by
    have : IntKind.u64.bits = 64 := rfl
    omega
  rw [e, pow256]
def chk (a b : Int) (c : Nat) (d : ByteArray) : Int :=
  if a < 0 ∨ 5 < a ∨ (a = 1 ∧ b ≠ 0 ∧ b ≠ 1) ∨ (a ≠ 1 ∧ a ≠ 2 ∧ b ≠ 0) ∨ (a ≠ 3 ∧ c ≠ 0) ∨ (a ≠ 4 ∧ a ≠ 5 ∧ d.toList ≠ []) ∨ (a = 4 ∧ Lib.validD d.data.toList = false) then 10
  else if (d.size : Int) > 65536 then 3 else 0
theorem nat_int_zero (c : Nat) : (((c : Nat) : Int) != 0) = decide (c ≠ 0) := by
  by_cases h : c = 0 <;> simp [h]
theorem valid_f (d : ByteArray) (h : d.size ≤ 140737488351232) : utf8_ValidString.f d = some (Lib.validD d.data.toList) := by
  unfold utf8_ValidString.f; rw [if_pos (by omega)]
theorem check_code (k : Nat) (a b : Int) (c : Nat) (d : ByteArray) (h : d.size ≤ 140737488351232) : value_Check.f (k + 6) a b c d = some (chk a b c d) := by
  have hc := nat_int_zero c
  have hv := valid_f d h
  unfold value_Check.f chk
  simp only [value_Check.j0, value_Check.j1, value_Check.j2, value_Check.j3, value_Check.j4, value_Check.j5, hv, hc, Option.bind_some]
  by_cases h1 : a < 0 <;> by_cases h2 : 5 < a <;> by_cases h3 : a = 1 <;> by_cases h4 : a = 2 <;> by_cases h5 : a = 3 <;> by_cases h6 : a = 4 <;> by_cases h7 : a = 5 <;>
    first
    | (exfalso; omega)
    | (by_cases hb : b = 0 <;> by_cases hb1 : b = 1 <;> by_cases hc0 : c = 0 <;> by_cases hd : d.toList = [] <;> by_cases hV : Lib.validD d.data.toList = true <;> simp_all <;> (try (split <;> rfl)) <;> (try (obtain rfl : a = 0 := by omega) <;> simp <;> split <;> rfl))
theorem isInt_range {n : Int} (h : (Lit.int .i64 n).wf = true) : -9223372036854775808 ≤ n ∧ n ≤ 9223372036854775807 := by
  simpa [Lit.wf, IntKind.min, IntKind.max, IntKind.signed, IntKind.bits] using h
end Go.Proofs.YtpiifdbicibelaaDoor.Pure
end
section
namespace Go.Proofs.YtpiifdbicibelaaDoorW.PrintWords
open Go.RowKit Go.Proofs
set_option linter.unusedVariables false
def schemaWords : ByteArray := " and bool bytes create default false float foreign in index int is key not null or primary references table text true unique abort as asc at avg begin between by commit count delete desc drop from group insert into limit max min of order release rollback savepoint select set sum to update values where with ".toUTF8
theorem contains_any (a0 a1 : ByteArray) (w : World) (hG : Glob w) (hs : a0.size < 4294967281) :
    Calls Tryd.prog 182 #[.string a0, .string a1] w fun e w' => e = .returned (.bool (Lib.contains a0.data.toList a1.data.toList)) ∧ Below w.heap.size w w' :=
  strings_Contains.calls a0 a1 _ w hG (by unfold strings_Contains.f; rw [if_pos hs])
/-- vellum/schema.word -/
def schema_word.f (s : ByteArray) : Option Bool := if s.size ≤ 4294967200 then some (Lib.contains schemaWords.data.toList (32 :: s.data.toList ++ [32])) else none
set_option maxHeartbeats 4000000 in
set_option maxRecDepth 100000 in
theorem schema_word.calls (a0 : ByteArray) (r : Bool) (w : World) (hG : Glob w) (h : schema_word.f a0 = some r) :
    Calls Tryd.prog 162 #[.string a0] w fun e w' => e = .returned (.bool r) ∧ Below w.heap.size w w' := by
  unfold schema_word.f at h
  split at h
  · rename_i hs
    obtain rfl := Option.some.inj h
    have h1 : a0.size + 1 ≤ 9223372036854775807 := by omega
    have h2 : 1 + a0.size ≤ 9223372036854775807 := by omega
    have hcat : (⟨#[32]⟩ ++ a0 ++ ⟨#[32]⟩ : ByteArray).data.toList = 32 :: a0.data.toList ++ [32] := by simp
    obtain ⟨c, hc⟩ : ∃ c, Lib.contains schemaWords.data.toList (32 :: a0.data.toList ++ [32]) = c := ⟨_, rfl⟩
    rw [hc]
    have Hc := Lib.hid hc
    clear hc
    have Hcat := Lib.hid hcat
    clear hcat
    go_enter Tryd.func162, Tryd.ntmps162
    go_wp2_with fail
    refine (contains_any _ _ _ hG ?c1).mono ?_
    case c1 => exact of_decide_eq_true rfl
    rintro e w1 ⟨rfl, hb⟩
    go_wp2_with fail
    go_ret
    refine ⟨?_, hb⟩
    rw [← Hc.out, ← Hcat.out]
    rfl
  · cases h
end Go.Proofs.YtpiifdbicibelaaDoorW.PrintWords
end
section
namespace Go.Proofs.YtpiifdbicibelaaDoor.PA
open Go.RowKit Go.Proofs.YtpiifdbicibelaaDoorW.PrintWords Go.Proofs.YtpiifdbicibelaaDoorW.PrintLast Go.Proofs.YtpiifdbicibelaaDoorW.PrintMore
attribute [local go_sem] max2_int min2_int max_two min_two max_three min_three max_four min_four
set_option linter.unusedVariables false
set_option linter.unusedSimpArgs false
def schema_small.f (a0 : Int) : Option (Bool) := if a0 = 95 then (some true) else (if a0 ≥ 97 then (some (decide (a0 ≤ 122))) else (some false))
set_option maxHeartbeats 8000000 in
set_option maxRecDepth 100000 in
theorem schema_small.calls (a0 : Int) (r : Bool) (w : World) (h : schema_small.f a0 = some r) :
    Calls Tryd.prog 161 #[.int .u8 a0] w fun e w' => e = .returned (.bool r) ∧ Drawn0 w w' := by
  have H : (if a0 = 95 then (some true) else (if a0 ≥ 97 then (some (decide (a0 ≤ 122))) else (some false))) = some r := h
  clear h
  by_cases c2 : a0 = 95
  · rw [if_pos c2] at H
    have c2b0 : (a0 == 95) = true := beq_iff_eq.mpr c2
    have c2b1 : (a0 != 95) = false := bne_eq_false_iff_eq.mpr c2
    clear c2
    obtain rfl := Option.some.inj H
    go_enter Tryd.func161, Tryd.ntmps161
    go_wp2
    go_ret
    exact ⟨eb, by repeat (first | exact Drawn0.refl _ | apply Drawn0.step)⟩
  · rw [if_neg c2] at H
    have c2b0 : (a0 == 95) = false := beq_eq_false_iff_ne.mpr c2
    have c2b1 : (a0 != 95) = true := bne_iff_ne.mpr c2
    by_cases c3 : a0 ≥ 97
    · rw [if_pos c3] at H
      have c3b0 : decide (97 ≤ a0) = true := decide_eq_true c3
      clear c3
      obtain rfl := Option.some.inj H
      go_enter Tryd.func161, Tryd.ntmps161
      go_wp2
      go_ret
      exact ⟨eb, by repeat (first | exact Drawn0.refl _ | apply Drawn0.step)⟩
    · rw [if_neg c3] at H
      have c3b0 : decide (97 ≤ a0) = false := decide_eq_false c3
      clear c3
      obtain rfl := Option.some.inj H
      go_enter Tryd.func161, Tryd.ntmps161
      go_wp2
      go_ret
      exact ⟨eb, by repeat (first | exact Drawn0.refl _ | apply Drawn0.step)⟩
def schema_digit.f (a0 : Int) : Option (Bool) := if a0 ≥ 48 then (some (decide (a0 ≤ 57))) else (some false)
set_option maxHeartbeats 8000000 in
set_option maxRecDepth 100000 in
theorem schema_digit.calls (a0 : Int) (r : Bool) (w : World) (h : schema_digit.f a0 = some r) :
    Calls Tryd.prog 163 #[.int .u8 a0] w fun e w' => e = .returned (.bool r) ∧ Drawn0 w w' := by
  have H : (if a0 ≥ 48 then (some (decide (a0 ≤ 57))) else (some false)) = some r := h
  clear h
  by_cases c2 : a0 ≥ 48
  · rw [if_pos c2] at H
    have c2b0 : decide (48 ≤ a0) = true := decide_eq_true c2
    clear c2
    obtain rfl := Option.some.inj H
    go_enter Tryd.func163, Tryd.ntmps163
    go_wp2
    go_ret
    exact ⟨eb, by repeat (first | exact Drawn0.refl _ | apply Drawn0.step)⟩
  · rw [if_neg c2] at H
    have c2b0 : decide (48 ≤ a0) = false := decide_eq_false c2
    clear c2
    obtain rfl := Option.some.inj H
    go_enter Tryd.func163, Tryd.ntmps163
    go_wp2
    go_ret
    exact ⟨eb, by repeat (first | exact Drawn0.refl _ | apply Drawn0.step)⟩
mutual
def schema_Name.j0 : Nat → ByteArray → Bool → Option (Bool)
  | 0, _, _ => none
  | k + 1, x0, x20 => if x20 = true then (some false) else (schema_Name.l0 k x0 (x0.size : Int) 0)
def schema_Name.l0 : Nat → ByteArray → Int → Int → Option (Bool)
  | 0, _, _, _ => none
  | k + 1, x0, x22, x23 => if x23 < x22 then (if 0 ≤ x23 then (if x23 < (x0.size : Int) then ((schema_small.f (bt x0 x23)).bind fun t103 => (if t103 = true then (schema_Name.l0 k x0 x22 (wrap64 (x23 + 1))) else ((schema_digit.f (bt x0 x23)).bind fun t104 => (if t104 = true then (schema_Name.l0 k x0 x22 (wrap64 (x23 + 1))) else (some false))))) else (none)) else (none)) else (some true)
end
def schema_Name.f (k : Nat) (a0 : ByteArray) : Option (Bool) := if a0.toList = ([] : List UInt8) then (schema_Name.j0 k a0 true) else (if (a0.size : Int) > 63 then (schema_Name.j0 k a0 true) else (if 0 < (a0.size : Int) then ((schema_small.f (bt a0 0)).bind fun t101 => (if t101 = true then ((schema_word.f a0).bind fun t102 => (schema_Name.j0 k a0 t102)) else (schema_Name.j0 k a0 true))) else (none)))
set_option maxHeartbeats 8000000 in
set_option maxRecDepth 100000 in
theorem schema_Name.calls (k : Nat) (a0 : ByteArray) (r : Bool) (w : World) (hG : Glob w) (h : schema_Name.f k a0 = some r) :
    Calls Tryd.prog 124 #[.string a0] w fun e w' => e = .returned (.bool r) ∧ Below w.heap.size w w' := by
  have HG := am hG
  clear hG
  have HB := am (Below.refl w.heap.size w)
  have H : (if a0.toList = ([] : List UInt8) then (schema_Name.j0 k a0 true) else (if (a0.size : Int) > 63 then (schema_Name.j0 k a0 true) else (if 0 < (a0.size : Int) then ((schema_small.f (bt a0 0)).bind fun t101 => (if t101 = true then ((schema_word.f a0).bind fun t102 => (schema_Name.j0 k a0 t102)) else (schema_Name.j0 k a0 true))) else (none)))) = some r := h
  clear h
  have HC2 := am H
  clear H
  go_enter Tryd.func124, Tryd.ntmps124
  go_upto_region 1 with (fail)
  go_cut [20] (fun v20 wc => ∃ (kq : Nat) (x20_1 : Bool), v20 = .bool x20_1 ∧ Aside0 (schema_Name.j0 kq a0 x20_1 = some r) ∧ Aside0 (kq ≤ k) ∧ Aside0 (Below w.heap.size w wc))
  case first =>
    have H := HC2.out
    clear HC2
    by_cases c3 : a0.toList = ([] : List UInt8)
    · rw [if_pos c3] at H
      have c3b0 : (a0.toList == ([] : List UInt8)) = true := beq_iff_eq.mpr c3
      have c3b1 : (a0.toList != ([] : List UInt8)) = false := bne_eq_false_iff_eq.mpr c3
      clear c3
      (first | rw [c3b0] | (simp only [i64_w, i32_w]; rw [c3b0]) | skip)
      have H' := am H
      clear H
      go_wp2
      go_meet
      case rel => exact ⟨_, (true), eb, H', ⟨by first | omega | exact Nat.le_refl _⟩, ⟨bl HB⟩⟩
    · rw [if_neg c3] at H
      have c3b0 : (a0.toList == ([] : List UInt8)) = false := beq_eq_false_iff_ne.mpr c3
      have c3b1 : (a0.toList != ([] : List UInt8)) = true := bne_iff_ne.mpr c3
      (first | rw [c3b0] | (simp only [i64_w, i32_w]; rw [c3b0]) | skip)
      by_cases c4 : (a0.size : Int) > 63
      · rw [if_pos c4] at H
        have c4b0 : decide (63 < (a0.size : Int)) = true := decide_eq_true c4
        have c4b1 : decide (63 < a0.size) = true := decide_eq_true (by omega)
        clear c4
        have H' := am H
        clear H
        go_wp2
        go_meet
        case rel => exact ⟨_, (true), eb, H', ⟨by first | omega | exact Nat.le_refl _⟩, ⟨bl HB⟩⟩
      · rw [if_neg c4] at H
        have c4b0 : decide (63 < (a0.size : Int)) = false := decide_eq_false c4
        have c4b1 : decide (63 < a0.size) = false := decide_eq_false (by omega)
        clear c4
        by_cases c5 : 0 < (a0.size : Int)
        · rw [if_pos c5] at H
          have c5b0 : decide (0 < (a0.size : Int)) = true := decide_eq_true c5
          have c5b1 : decide (0 < a0.size) = true := decide_eq_true (by omega)
          clear c5
          replace H := Option.bind_eq_some_iff.mp H
          obtain ⟨t101, A70, H⟩ := H
          replace H : (if t101 = true then ((schema_word.f a0).bind fun t102 => (schema_Name.j0 k a0 t102)) else (schema_Name.j0 k a0 true)) = some r := H
          have A7 := am A70
          clear A70
          by_cases c8 : t101 = true
          · subst c8
            have H1 : ((schema_word.f a0).bind fun t102 => (schema_Name.j0 k a0 t102)) = some r := by rw [if_pos rfl] at H; exact H
            clear H
            have H := H1
            clear H1
            replace H := Option.bind_eq_some_iff.mp H
            obtain ⟨t102, A90, H⟩ := H
            replace H : (schema_Name.j0 k a0 t102) = some r := H
            have A9 := am A90
            clear A90
            have H' := am H
            clear H
            have p6 : 0 ≤ (0 : Int) := (by omega)
            have q6 : 0 < a0.size := (by have : (0 : Int) < (a0.size : Int) := oda; omega)
            have hx6 : ∀ h : 0 < a0.size, ((a0[0]'h).toNat : Int) = bt a0 0 := bt_at a0 0
            clear p6
            have qi6 : (0 < (a0.size : Int)) = True := eq_true (oda)
            replace q6 := eq_true q6
            go_wp2_with (first | (go_at_call 161; (with_reducible refine (schema_small.calls (bt a0 0) true _ A7.out).mono ?_); rintro e w' ⟨rfl, ⟨nd, rfl⟩⟩) | (go_at_call 162; (with_reducible refine (schema_word.calls a0 t102 _ (Glob.below HG.out (bl HB)) A9.out).mono ?_); rintro e w10 ⟨rfl, hb⟩; replace HB := sb HB hb; (try clear hb); (try clear hb2 hk hi)))
            go_meet
            case rel => exact ⟨_, (t102), eb, H', ⟨by first | omega | exact Nat.le_refl _⟩, ⟨bl HB⟩⟩
          · replace c8 := Bool.eq_false_iff.mpr c8
            subst c8
            have H1 : (schema_Name.j0 k a0 true) = some r := by rw [if_neg (show ¬ (false = true) by decide)] at H; exact H
            clear H
            have H := H1
            clear H1
            have H' := am H
            clear H
            have p6 : 0 ≤ (0 : Int) := (by omega)
            have q6 : 0 < a0.size := (by have : (0 : Int) < (a0.size : Int) := oda; omega)
            have hx6 : ∀ h : 0 < a0.size, ((a0[0]'h).toNat : Int) = bt a0 0 := bt_at a0 0
            clear p6
            have qi6 : (0 < (a0.size : Int)) = True := eq_true (oda)
            replace q6 := eq_true q6
            go_wp2_with (first | (go_at_call 161; (with_reducible refine (schema_small.calls (bt a0 0) false _ A7.out).mono ?_); rintro e w' ⟨rfl, ⟨nd, rfl⟩⟩))
            go_meet
            case rel => exact ⟨_, (true), eb, H', ⟨by first | omega | exact Nat.le_refl _⟩, ⟨bl HB⟩⟩
        · rw [if_neg c5] at H
          exact absurd H (by simp)
  case rest =>
    clear HC2
    try clear c1
    try clear p2
    try clear c3
    try clear c3b0
    try clear c3b1
    try clear c4
    try clear c4b0
    try clear c4b1
    try clear c5
    try clear c5b0
    try clear c5b1
    try clear p6
    try clear q6
    try clear hx6
    try clear qi6
    try clear c8
    try clear p6
    try clear q6
    obtain ⟨kq, x20_1, rfl, HA, HJ1, HB⟩ := hcut
    cases kq with
    | zero => exact absurd HA.out (by simp [schema_Name.j0])
    | succ kj1 =>
      have H := HA.out
      clear HA
      simp only [schema_Name.j0] at H
      by_cases c11 : x20_1 = true
      · subst c11
        have H1 : (some false) = some r := by rw [if_pos rfl] at H; exact H
        clear H
        have H := H1
        clear H1
        obtain rfl := Option.some.inj H
        go_wp2
        go_ret
        exact ⟨er, bl HB⟩
      · replace c11 := Bool.eq_false_iff.mpr c11
        subst c11
        have H1 : (schema_Name.l0 kj1 a0 (a0.size : Int) 0) = some r := by rw [if_neg (show ¬ (false = true) by decide)] at H; exact H
        clear H
        have H := H1
        clear H1
        have H' := am H
        clear H
        go_wp2
        go_loopg [23] kj1 (fun kq v23 w' => ∃ (x23_2 : Int), v23 = .int .i64 x23_2 ∧ Aside0 (schema_Name.l0 kq a0 (a0.size : Int) x23_2 = some r) ∧ Aside0 (kq ≤ kj1) ∧ Aside0 (Below w.heap.size w w'))
        case atStart => exact ⟨(0), eb, H', ⟨Nat.le_refl _⟩, ⟨bl HB⟩⟩
        case round =>
          clear H'
          try clear c1
          try clear p2
          try clear c3
          try clear c3b0
          try clear c3b1
          try clear c4
          try clear c4b0
          try clear c4b1
          try clear c5
          try clear c5b0
          try clear c5b1
          try clear p6
          try clear q6
          try clear hx6
          try clear qi6
          try clear c8
          try clear c11
          try clear p2
          try clear p6
          try clear q6
          obtain ⟨x23_2, rfl, HA, HK2, HB⟩ := hrel
          cases gk with
          | zero => exact absurd HA.out (by simp [schema_Name.l0])
          | succ k2 =>
            have H := HA.out
            clear HA
            simp only [schema_Name.l0] at H
            by_cases c12 : x23_2 < (a0.size : Int)
            · rw [if_pos c12] at H
              have c12b0 : decide (x23_2 < (a0.size : Int)) = true := decide_eq_true c12
              clear c12
              by_cases c13 : 0 ≤ x23_2
              · rw [if_pos c13] at H
                have c13b0 : decide (0 ≤ x23_2) = true := decide_eq_true c13
                clear c13
                by_cases c14 : x23_2 < (a0.size : Int)
                · rw [if_pos c14] at H
                  have c14b0 : decide (x23_2 < (a0.size : Int)) = true := decide_eq_true c14
                  clear c14
                  replace H := Option.bind_eq_some_iff.mp H
                  obtain ⟨t103, A160, H⟩ := H
                  replace H : (if t103 = true then (schema_Name.l0 k2 a0 (a0.size : Int) (wrap64 (x23_2 + 1))) else ((schema_digit.f (bt a0 x23_2)).bind fun t104 => (if t104 = true then (schema_Name.l0 k2 a0 (a0.size : Int) (wrap64 (x23_2 + 1))) else (some false)))) = some r := H
                  have A16 := am A160
                  clear A160
                  by_cases c17 : t103 = true
                  · subst c17
                    have H1 : (schema_Name.l0 k2 a0 (a0.size : Int) (wrap64 (x23_2 + 1))) = some r := by rw [if_pos rfl] at H; exact H
                    clear H
                    have H := H1
                    clear H1
                    have H' := am H
                    clear H
                    have p15 : 0 ≤ (x23_2 : Int) := oda
                    have q15 : x23_2 < (a0.size : Int) := oda
                    have hx15 := bt_at a0 x23_2
                    replace p15 := eq_true p15
                    replace q15 := eq_true q15
                    go_wp2_with (first | ((with_reducible refine gate_callee (f := 161) rfl ?_); refine goesL_ (some 29) rfl rfl Tryd.func161 (by kernel_rfl) rfl #[.int .u8 (bt a0 x23_2)] rfl ar ?_; (with_reducible refine (schema_small.calls (bt a0 x23_2) true _ A16.out).mono ?_); rintro e w' ⟨rfl, ⟨nd, rfl⟩⟩; refine ⟨_, rfl, ?_⟩))
                    go_roundg k2
                    case measure => have := HJ1.out; have := HK2.out; omega
                    case rel => exact ⟨(wrap64 (x23_2 + 1)), eb, H', ⟨by have := HJ1.out; have := HK2.out; omega⟩, ⟨bl HB⟩⟩
                  · replace c17 := Bool.eq_false_iff.mpr c17
                    subst c17
                    have H1 : ((schema_digit.f (bt a0 x23_2)).bind fun t104 => (if t104 = true then (schema_Name.l0 k2 a0 (a0.size : Int) (wrap64 (x23_2 + 1))) else (some false))) = some r := by rw [if_neg (show ¬ (false = true) by decide)] at H; exact H
                    clear H
                    have H := H1
                    clear H1
                    replace H := Option.bind_eq_some_iff.mp H
                    obtain ⟨t104, A190, H⟩ := H
                    replace H : (if t104 = true then (schema_Name.l0 k2 a0 (a0.size : Int) (wrap64 (x23_2 + 1))) else (some false)) = some r := H
                    have A19 := am A190
                    clear A190
                    by_cases c20 : t104 = true
                    · subst c20
                      have H1 : (schema_Name.l0 k2 a0 (a0.size : Int) (wrap64 (x23_2 + 1))) = some r := by rw [if_pos rfl] at H; exact H
                      clear H
                      have H := H1
                      clear H1
                      have H' := am H
                      clear H
                      have p15 : 0 ≤ (x23_2 : Int) := oda
                      have q15 : x23_2 < (a0.size : Int) := oda
                      have hx15 := bt_at a0 x23_2
                      replace p15 := eq_true p15
                      replace q15 := eq_true q15
                      go_wp2_with (first | ((with_reducible refine gate_callee (f := 161) rfl ?_); refine goesL_ (some 29) rfl rfl Tryd.func161 (by kernel_rfl) rfl #[.int .u8 (bt a0 x23_2)] rfl ar ?_; (with_reducible refine (schema_small.calls (bt a0 x23_2) false _ A16.out).mono ?_); rintro e w' ⟨rfl, ⟨nd, rfl⟩⟩; refine ⟨_, rfl, ?_⟩; have p18 : 0 ≤ (x23_2 : Int) := oda; have q18 : x23_2 < (a0.size : Int) := oda; have hx18 := bt_at a0 x23_2; replace p18 := eq_true p18; replace q18 := eq_true q18) | (go_at_call 163; (with_reducible refine (schema_digit.calls (bt a0 x23_2) true _ A19.out).mono ?_); rintro e w' ⟨rfl, ⟨nd, rfl⟩⟩))
                      go_roundg k2
                      case measure => have := HJ1.out; have := HK2.out; omega
                      case rel => exact ⟨(wrap64 (x23_2 + 1)), eb, H', ⟨by have := HJ1.out; have := HK2.out; omega⟩, ⟨bl HB⟩⟩
                    · replace c20 := Bool.eq_false_iff.mpr c20
                      subst c20
                      have H1 : (some false) = some r := by rw [if_neg (show ¬ (false = true) by decide)] at H; exact H
                      clear H
                      have H := H1
                      clear H1
                      obtain rfl := Option.some.inj H
                      have p15 : 0 ≤ (x23_2 : Int) := oda
                      have q15 : x23_2 < (a0.size : Int) := oda
                      have hx15 := bt_at a0 x23_2
                      replace p15 := eq_true p15
                      replace q15 := eq_true q15
                      go_wp2_with (first | ((with_reducible refine gate_callee (f := 161) rfl ?_); refine goesL_ (some 29) rfl rfl Tryd.func161 (by kernel_rfl) rfl #[.int .u8 (bt a0 x23_2)] rfl ar ?_; (with_reducible refine (schema_small.calls (bt a0 x23_2) false _ A16.out).mono ?_); rintro e w' ⟨rfl, ⟨nd, rfl⟩⟩; refine ⟨_, rfl, ?_⟩; have p18 : 0 ≤ (x23_2 : Int) := oda; have q18 : x23_2 < (a0.size : Int) := oda; have hx18 := bt_at a0 x23_2; replace p18 := eq_true p18; replace q18 := eq_true q18) | (go_at_call 163; (with_reducible refine (schema_digit.calls (bt a0 x23_2) false _ A19.out).mono ?_); rintro e w' ⟨rfl, ⟨nd, rfl⟩⟩))
                      go_ret
                      exact ⟨er, bl HB⟩
                · rw [if_neg c14] at H
                  exact absurd H (by simp)
              · rw [if_neg c13] at H
                exact absurd H (by simp)
            · rw [if_neg c12] at H
              have c12b0 : decide (x23_2 < (a0.size : Int)) = false := decide_eq_false c12
              clear c12
              obtain rfl := Option.some.inj H
              go_wp2
              go_ret
              exact ⟨er, bl HB⟩
def slices_Index_int_int.l0 : Nat → List Int → Int → Int → Int → Option (Int)
  | 0, _, _, _, _ => none
  | k + 1, x0, x1, x7, x8 => if x8 < x7 then (if 0 ≤ x8 then (if x8 < (x0.length : Int) then (if x1 = (rd x0 x8) then (some x8) else (slices_Index_int_int.l0 k x0 x1 x7 (wrap64 (x8 + 1)))) else (none)) else (none)) else (some (-1))
def slices_Index_int_int.f (k : Nat) (l0 : List Int) (a1 : Int) : Option (Int) := slices_Index_int_int.l0 k l0 a1 (l0.length : Int) 0
set_option maxHeartbeats 8000000 in
set_option maxRecDepth 100000 in
theorem slices_Index_int_int.calls (k : Nat) (A0 : Option Addr) (c0 : Nat) (l0 : List Int) (a1 : Int) (r : Int) (w : World) (hr0 : Kd.C (Kd.int .i64) w A0 l0.length l0) (hc0 : l0.length ≤ c0) (h : slices_Index_int_int.f k l0 a1 = some r) :
    Calls Tryd.prog 184 #[.slice A0 l0.length c0, .int .i64 a1] w fun e w' => e = .returned (.int .i64 r) ∧ Drawn0 w w' := by
  have HR0 := am hr0
  have HC0 := am hc0
  clear hr0 hc0
  have H : (slices_Index_int_int.l0 k l0 a1 (l0.length : Int) 0) = some r := h
  clear h
  have H' := am H
  clear H
  go_enter Tryd.func184, Tryd.ntmps184
  go_wp2
  go_loopg [8] k (fun kq v8 w' => ∃ (x8_1 : Int), v8 = .int .i64 x8_1 ∧ Aside0 (slices_Index_int_int.l0 kq l0 a1 (l0.length : Int) x8_1 = some r) ∧ Aside0 (kq ≤ k) ∧ Drawn0 w w')
  case atStart => exact ⟨(0), eb, H', ⟨Nat.le_refl _⟩, by repeat (first | exact Drawn0.refl _ | apply Drawn0.step)⟩
  case round =>
    clear H'
    try clear c1
    try clear p2
    obtain ⟨x8_1, rfl, HA, HK1, ⟨m1, rfl⟩⟩ := hrel
    cases gk with
    | zero => exact absurd HA.out (by simp [slices_Index_int_int.l0])
    | succ k1 =>
      have H := HA.out
      clear HA
      simp only [slices_Index_int_int.l0] at H
      by_cases c3 : x8_1 < (l0.length : Int)
      · rw [if_pos c3] at H
        have c3b0 : decide (x8_1 < (l0.length : Int)) = true := decide_eq_true c3
        clear c3
        by_cases c4 : 0 ≤ x8_1
        · rw [if_pos c4] at H
          have c4b0 : decide (0 ≤ x8_1) = true := decide_eq_true c4
          clear c4
          by_cases c5 : x8_1 < (l0.length : Int)
          · rw [if_pos c5] at H
            have c5b0 : decide (x8_1 < (l0.length : Int)) = true := decide_eq_true c5
            clear c5
            by_cases c6 : a1 = (rd l0 x8_1)
            · rw [if_pos c6] at H
              have c6b0 : (a1 == (rd l0 x8_1)) = true := beq_iff_eq.mpr c6
              have c6b1 : (a1 != (rd l0 x8_1)) = false := bne_eq_false_iff_eq.mpr c6
              clear c6
              obtain rfl := Option.some.inj H
              have p105 : 0 ≤ (x8_1 : Int) := oda
              have q105 : x8_1 < (l0.length : Int) := oda
              obtain ⟨ad105, e105, hx105_0⟩ := Kd.at_int HR0.out x8_1 p105 q105
              cases e105
              replace p105 := eq_true p105
              replace q105 := eq_true q105
              go_wp2
              go_ret
              exact ⟨eb, by repeat (first | exact Drawn0.refl _ | apply Drawn0.step)⟩
            · rw [if_neg c6] at H
              have c6b0 : (a1 == (rd l0 x8_1)) = false := beq_eq_false_iff_ne.mpr c6
              have c6b1 : (a1 != (rd l0 x8_1)) = true := bne_iff_ne.mpr c6
              have H' := am H
              clear H
              have p105 : 0 ≤ (x8_1 : Int) := oda
              have q105 : x8_1 < (l0.length : Int) := oda
              obtain ⟨ad105, e105, hx105_0⟩ := Kd.at_int HR0.out x8_1 p105 q105
              cases e105
              replace p105 := eq_true p105
              replace q105 := eq_true q105
              go_wp2
              go_roundg k1
              case measure => have := HK1.out; omega
              case rel => exact ⟨(wrap64 (x8_1 + 1)), eb, H', ⟨by have := HK1.out; omega⟩, by repeat (first | exact Drawn0.refl _ | apply Drawn0.step)⟩
          · rw [if_neg c5] at H
            exact absurd H (by simp)
        · rw [if_neg c4] at H
          exact absurd H (by simp)
      · rw [if_neg c3] at H
        have c3b0 : decide (x8_1 < (l0.length : Int)) = false := decide_eq_false c3
        clear c3
        obtain rfl := Option.some.inj H
        go_wp2
        go_ret
        exact ⟨eb, by repeat (first | exact Drawn0.refl _ | apply Drawn0.step)⟩
def slices_Contains_int_int.f (k : Nat) (l0 : List Int) (a1 : Int) : Option (Bool) := (slices_Index_int_int.f k l0 a1).bind fun t106 => (some (decide (t106 ≥ 0)))
set_option maxHeartbeats 8000000 in
set_option maxRecDepth 100000 in
theorem slices_Contains_int_int.calls (k : Nat) (A0 : Option Addr) (c0 : Nat) (l0 : List Int) (a1 : Int) (r : Bool) (w : World) (hr0 : Kd.C (Kd.int .i64) w A0 l0.length l0) (hc0 : l0.length ≤ c0) (h : slices_Contains_int_int.f k l0 a1 = some r) :
    Calls Tryd.prog 166 #[.slice A0 l0.length c0, .int .i64 a1] w fun e w' => e = .returned (.bool r) ∧ Drawn0 w w' := by
  have HR0 := am hr0
  have HC0 := am hc0
  clear hr0 hc0
  have H : ((slices_Index_int_int.f k l0 a1).bind fun t106 => (some (decide (t106 ≥ 0)))) = some r := h
  clear h
  replace H := Option.bind_eq_some_iff.mp H
  obtain ⟨t106, A30, H⟩ := H
  replace H : (some (decide (t106 ≥ 0))) = some r := H
  have A3 := am A30
  clear A30
  obtain rfl := Option.some.inj H
  go_enter Tryd.func166, Tryd.ntmps166
  go_wp2_with (first | ((with_reducible refine gate_callee (f := 184) rfl ?_); refine goesL_ (some 7) rfl rfl Tryd.func184 (by kernel_rfl) rfl #[.slice A0 l0.length c0, .int .i64 a1] rfl ar ?_; (with_reducible refine (slices_Index_int_int.calls k _ _ l0 a1 t106 _ ?side1 HC0.out A3.out).mono ?_); (case side1 => repeat (first | exact HR0.out | (with_reducible refine Kd.C_alloc ?_ _) | (with_reducible refine Kd.C_drewN ?_ _) | (with_reducible refine Kd.C_drew ?_))); rintro e w' ⟨rfl, ⟨nd, rfl⟩⟩; refine ⟨_, rfl, ?_⟩))
  go_ret
  exact ⟨eb, by repeat (first | exact Drawn0.refl _ | apply Drawn0.step)⟩
mutual
def schema_columnsOf.j0 : Nat → List Int → Bool → ByteArray → List (S105) → List Int → List (S115) → List (S139) → Option (Bool)
  | 0, _, _, _, _, _, _, _ => none
  | k + 1, x1, x14, x108000, x108001, x108002, x108003, x108004 => if x14 = true then (some false) else (schema_columnsOf.l0 k x1 x1 (x1.length : Int) 0 x108000 x108001 x108002 x108003 x108004)
def schema_columnsOf.l0 : Nat → List Int → List Int → Int → Int → ByteArray → List (S105) → List Int → List (S115) → List (S139) → Option (Bool)
  | 0, _, _, _, _, _, _, _, _, _ => none
  | k + 1, x1, x15, x16, x17, x108000, x108001, x108002, x108003, x108004 => if x17 < x16 then (if 0 ≤ x17 then (if x17 < (x15.length : Int) then (if (rd x15 x17) < 0 then (some false) else (if (rd x15 x17) ≥ (x108001.length : Int) then (some false) else (if x17 ≤ (x1.length : Int) then ((slices_Contains_int_int.f k (x1.take (x17 : Int).toNat) (rd x15 x17)).bind fun t110 => (if t110 = true then (some false) else (schema_columnsOf.l0 k x1 x15 x16 (wrap64 (x17 + 1)) x108000 x108001 x108002 x108003 x108004))) else (none)))) else (none)) else (none)) else (some true)
end
def schema_columnsOf.f (k : Nat) (a0_0 : ByteArray) (l0_1 : List (S105)) (l0_2 : List Int) (l0_3 : List (S115)) (l0_4 : List (S139)) (l1 : List Int) : Option (Bool) := if (l1.length : Int) < 1 then (schema_columnsOf.j0 k l1 true a0_0 l0_1 l0_2 l0_3 l0_4) else (schema_columnsOf.j0 k l1 (decide ((l1.length : Int) > 64)) a0_0 l0_1 l0_2 l0_3 l0_4)
set_option maxHeartbeats 8000000 in
set_option maxRecDepth 100000 in
theorem schema_columnsOf.calls (k : Nat) (a0_0 : ByteArray) (A0_1 : Option Addr) (c0_1 : Nat) (l0_1 : List (S105)) (A0_2 : Option Addr) (c0_2 : Nat) (l0_2 : List Int) (A0_3 : Option Addr) (c0_3 : Nat) (l0_3 : List (S115)) (A0_4 : Option Addr) (c0_4 : Nat) (l0_4 : List (S139)) (A1 : Option Addr) (c1 : Nat) (l1 : List Int) (r : Bool) (w : World) (hr0_1 : Kd.C k105 w A0_1 l0_1.length l0_1) (hc0_1 : l0_1.length ≤ c0_1) (hr0_2 : Kd.C (Kd.int .i64) w A0_2 l0_2.length l0_2) (hc0_2 : l0_2.length ≤ c0_2) (hr0_3 : Kd.C k115 w A0_3 l0_3.length l0_3) (hc0_3 : l0_3.length ≤ c0_3) (hr0_4 : Kd.C k139 w A0_4 l0_4.length l0_4) (hc0_4 : l0_4.length ≤ c0_4) (hr1 : Kd.C (Kd.int .i64) w A1 l1.length l1) (hc1 : l1.length ≤ c1) (h : schema_columnsOf.f k a0_0 l0_1 l0_2 l0_3 l0_4 l1 = some r) :
    Calls Tryd.prog 126 #[.agg #[.string a0_0, .slice A0_1 l0_1.length c0_1, .slice A0_2 l0_2.length c0_2, .slice A0_3 l0_3.length c0_3, .slice A0_4 l0_4.length c0_4], .slice A1 l1.length c1] w fun e w' => e = .returned (.bool r) ∧ Below w.heap.size w w' := by
  have hu65 := Tryd.underlying65
  have HR0_1 := am hr0_1
  have HC0_1 := am hc0_1
  clear hr0_1 hc0_1
  have HR0_2 := am hr0_2
  have HC0_2 := am hc0_2
  clear hr0_2 hc0_2
  have HR0_3 := am hr0_3
  have HC0_3 := am hc0_3
  clear hr0_3 hc0_3
  have HR0_4 := am hr0_4
  have HC0_4 := am hc0_4
  clear hr0_4 hc0_4
  have HR1 := am hr1
  have HC1 := am hc1
  clear hr1 hc1
  have HB := am (Below.refl w.heap.size w)
  have H : (if (l1.length : Int) < 1 then (schema_columnsOf.j0 k l1 true a0_0 l0_1 l0_2 l0_3 l0_4) else (schema_columnsOf.j0 k l1 (decide ((l1.length : Int) > 64)) a0_0 l0_1 l0_2 l0_3 l0_4)) = some r := h
  clear h
  have HC3 := am H
  clear H
  go_enter Tryd.func126, Tryd.ntmps126
  go_upto_region 1 with (first | ((with_reducible refine gate_dst (N := 2) rfl ?_); (try (refine gate_guard (by rfl) ?_; dsimp only)); refine box_event rfl (N := 2) rfl (cs := #[.string a0_0, .slice A0_1 l0_1.length c0_1, .slice A0_2 l0_2.length c0_2, .slice A0_3 l0_3.length c0_3, .slice A0_4 l0_4.length c0_4]) (t := 65) gs ?_; intro gb107 hg w4 hbox hb; have BK107 := am (hbox); have GW107 := gw hg HB; have GE107 := gw hg HB; replace HB := sb HB hb; clear hb hbox hg))
  (try simp only [Act.put, List.setIfInBounds_toArray, List.set_cons_zero, List.set_cons_succ])
  go_cut [14] (fun v14 wc => ∃ (kq : Nat) (x14_2 : Bool), v14 = .bool x14_2 ∧ Aside0 (schema_columnsOf.j0 kq l1 x14_2 a0_0 l0_1 l0_2 l0_3 l0_4 = some r) ∧ Aside0 (kq ≤ k) ∧ Aside0 (wc.heap[gb107]? = some (.cells #[.string a0_0, (.slice A0_1 l0_1.length c0_1), (.slice A0_2 l0_2.length c0_2), (.slice A0_3 l0_3.length c0_3), (.slice A0_4 l0_4.length c0_4)] 65 (0, 0))) ∧ Aside0 (Below w.heap.size w wc))
  case first =>
    have H := HC3.out
    clear HC3
    by_cases c5 : (l1.length : Int) < 1
    · rw [if_pos c5] at H
      have c5b0 : decide ((l1.length : Int) < 1) = true := decide_eq_true c5
      have c5b1 : decide (l1.length < 1) = true := decide_eq_true (by omega)
      clear c5
      (first | rw [c5b0] | (simp only [i64_w, i32_w]; rw [c5b0]) | skip)
      have H' := am H
      clear H
      go_wp2
      go_meet
      case rel => exact ⟨_, (true), eb, H', ⟨by first | omega | exact Nat.le_refl _⟩, ⟨bk BK107⟩, ⟨bl HB⟩⟩
    · rw [if_neg c5] at H
      have c5b0 : decide ((l1.length : Int) < 1) = false := decide_eq_false c5
      have c5b1 : decide (l1.length < 1) = false := decide_eq_false (by omega)
      clear c5
      (first | rw [c5b0] | (simp only [i64_w, i32_w]; rw [c5b0]) | skip)
      have H' := am H
      clear H
      go_wp2
      go_meet
      case rel => exact ⟨_, (decide ((l1.length : Int) > 64)), eb, H', ⟨by first | omega | exact Nat.le_refl _⟩, ⟨bk BK107⟩, ⟨bl HB⟩⟩
  case rest =>
    clear HC3
    try clear c1
    try clear p2
    try clear c5
    try clear c5b0
    try clear c5b1
    obtain ⟨kq, x14_2, rfl, HA, HJ2, BK107, HB⟩ := hcut
    cases kq with
    | zero => exact absurd HA.out (by simp [schema_columnsOf.j0])
    | succ kj2 =>
      have H := HA.out
      clear HA
      simp only [schema_columnsOf.j0] at H
      by_cases c6 : x14_2 = true
      · subst c6
        have H1 : (some false) = some r := by rw [if_pos rfl] at H; exact H
        clear H
        have H := H1
        clear H1
        obtain rfl := Option.some.inj H
        go_wp2
        go_ret
        exact ⟨er, bl HB⟩
      · replace c6 := Bool.eq_false_iff.mpr c6
        subst c6
        have H1 : (schema_columnsOf.l0 kj2 l1 l1 (l1.length : Int) 0 a0_0 l0_1 l0_2 l0_3 l0_4) = some r := by rw [if_neg (show ¬ (false = true) by decide)] at H; exact H
        clear H
        have H := H1
        clear H1
        have H' := am H
        clear H
        go_wp2
        go_loopg [17] kj2 (fun kq v17 w' => ∃ (x17_2 : Int), v17 = .int .i64 x17_2 ∧ Aside0 (schema_columnsOf.l0 kq l1 l1 (l1.length : Int) x17_2 a0_0 l0_1 l0_2 l0_3 l0_4 = some r) ∧ Aside0 (kq ≤ kj2) ∧ Aside0 (w'.heap[gb107]? = some (.cells #[.string a0_0, (.slice A0_1 l0_1.length c0_1), (.slice A0_2 l0_2.length c0_2), (.slice A0_3 l0_3.length c0_3), (.slice A0_4 l0_4.length c0_4)] 65 (0, 0))) ∧ Aside0 (Below w.heap.size w w'))
        case atStart => exact ⟨(0), eb, H', ⟨Nat.le_refl _⟩, ⟨bk BK107⟩, ⟨bl HB⟩⟩
        case round =>
          clear H'
          try clear c1
          try clear p2
          try clear c5
          try clear c5b0
          try clear c5b1
          try clear c6
          try clear p2
          obtain ⟨x17_2, rfl, HA, HK2, BK107, HB⟩ := hrel
          cases gk with
          | zero => exact absurd HA.out (by simp [schema_columnsOf.l0])
          | succ k2 =>
            have H := HA.out
            clear HA
            simp only [schema_columnsOf.l0] at H
            by_cases c7 : x17_2 < (l1.length : Int)
            · rw [if_pos c7] at H
              have c7b0 : decide (x17_2 < (l1.length : Int)) = true := decide_eq_true c7
              clear c7
              by_cases c8 : 0 ≤ x17_2
              · rw [if_pos c8] at H
                have c8b0 : decide (0 ≤ x17_2) = true := decide_eq_true c8
                clear c8
                by_cases c9 : x17_2 < (l1.length : Int)
                · rw [if_pos c9] at H
                  have c9b0 : decide (x17_2 < (l1.length : Int)) = true := decide_eq_true c9
                  clear c9
                  by_cases c10 : (rd l1 x17_2) < 0
                  · rw [if_pos c10] at H
                    have c10b0 : decide ((rd l1 x17_2) < 0) = true := decide_eq_true c10
                    clear c10
                    obtain rfl := Option.some.inj H
                    have p108 : 0 ≤ (x17_2 : Int) := oda
                    have q108 : x17_2 < (l1.length : Int) := oda
                    obtain ⟨ad108, e108, hx108_0⟩ := Kd.at_int HR1.out x17_2 p108 q108
                    cases e108
                    replace hx108_0 := hc HB hx108_0
                    replace p108 := eq_true p108
                    replace q108 := eq_true q108
                    go_wp2
                    go_ret
                    exact ⟨er, bl HB⟩
                  · rw [if_neg c10] at H
                    have c10b0 : decide ((rd l1 x17_2) < 0) = false := decide_eq_false c10
                    clear c10
                    by_cases c11 : (rd l1 x17_2) ≥ (l0_1.length : Int)
                    · rw [if_pos c11] at H
                      have c11b0 : decide ((l0_1.length : Int) ≤ (rd l1 x17_2)) = true := decide_eq_true c11
                      clear c11
                      obtain rfl := Option.some.inj H
                      have p108 : 0 ≤ (x17_2 : Int) := oda
                      have q108 : x17_2 < (l1.length : Int) := oda
                      obtain ⟨ad108, e108, hx108_0⟩ := Kd.at_int HR1.out x17_2 p108 q108
                      cases e108
                      replace hx108_0 := hc HB hx108_0
                      replace p108 := eq_true p108
                      replace q108 := eq_true q108
                      obtain ⟨Z12_0, Z12_1, Z12_2, Z12_3, Z12_4, Y12_0, Y12_1, Y12_2, Y12_3, Y12_4⟩ := bq5 BK107
                      go_wp2
                      go_ret
                      exact ⟨er, bl HB⟩
                    · rw [if_neg c11] at H
                      have c11b0 : decide ((l0_1.length : Int) ≤ (rd l1 x17_2)) = false := decide_eq_false c11
                      clear c11
                      have c13b0 := eq_true (oda : 0 ≤ x17_2)
                      by_cases c14 : x17_2 ≤ (l1.length : Int)
                      · rw [if_pos c14] at H
                        have c14b0 := eq_true c14
                        have c14b1 : decide (x17_2 ≤ (l1.length : Int)) = true := decide_eq_true c14
                        clear c14
                        replace H := Option.bind_eq_some_iff.mp H
                        obtain ⟨t110, A150, H⟩ := H
                        replace H : (if t110 = true then (some false) else (schema_columnsOf.l0 k2 l1 l1 (l1.length : Int) (wrap64 (x17_2 + 1)) a0_0 l0_1 l0_2 l0_3 l0_4)) = some r := H
                        have A15 := am A150
                        clear A150
                        by_cases c16 : t110 = true
                        · subst c16
                          have H1 : (some false) = some r := by rw [if_pos rfl] at H; exact H
                          clear H
                          have H := H1
                          clear H1
                          obtain rfl := Option.some.inj H
                          have p108 : 0 ≤ (x17_2 : Int) := oda
                          have q108 : x17_2 < (l1.length : Int) := oda
                          obtain ⟨ad108, e108, hx108_0⟩ := Kd.at_int HR1.out x17_2 p108 q108
                          cases e108
                          replace hx108_0 := hc HB hx108_0
                          replace p108 := eq_true p108
                          replace q108 := eq_true q108
                          obtain ⟨Z17_0, Z17_1, Z17_2, Z17_3, Z17_4, Y17_0, Y17_1, Y17_2, Y17_3, Y17_4⟩ := bq5 BK107
                          obtain ⟨i018, hi018, _, hsz18, _⟩ := info_parts info3
                          obtain ⟨hcut18, hA18, hC18⟩ := print_take_of (P := Tryd.prog) (Value.int .i64) 0 61 3 .i64 Tryd.underlying61 hi018 hsz18 (some ad108) c1 l1 x17_2 (oda) (oda) HC1.out
                          have HR109 := am (Kd.C_of_reads (h1 := fun _ => rfl) (hA18 _ (Kd.reads_of_C HR1.out)))
                          have HC109 := am hC18
                          clear hA18 hC18 hi018 hsz18
                          go_wp2_with (first | (go_at_call 166; refine calls_of_args (args' := #[.slice (some ad108) (l1.take (x17_2 : Int).toNat).length c1, .int .i64 (rd l1 x17_2)]) (by first | (rw [show (l1.take (x17_2 : Int).toNat).length = x17_2.toNat from (by rw [List.length_take]; have h_ : (x17_2 : Int) ≤ (l1.length : Int) := oda; omega)] <;> rfl) | rfl) ?_; (with_reducible refine (slices_Contains_int_int.calls k2 _ _ (l1.take (x17_2 : Int).toNat) (rd l1 x17_2) true _ ?side1 HC109.out A15.out).mono ?_); (case side1 => exact Kd.cb HR109 HB); rintro e w' ⟨rfl, ⟨nd, rfl⟩⟩))
                          go_ret
                          exact ⟨er, bl HB⟩
                        · replace c16 := Bool.eq_false_iff.mpr c16
                          subst c16
                          have H1 : (schema_columnsOf.l0 k2 l1 l1 (l1.length : Int) (wrap64 (x17_2 + 1)) a0_0 l0_1 l0_2 l0_3 l0_4) = some r := by rw [if_neg (show ¬ (false = true) by decide)] at H; exact H
                          clear H
                          have H := H1
                          clear H1
                          have H' := am H
                          clear H
                          have p108 : 0 ≤ (x17_2 : Int) := oda
                          have q108 : x17_2 < (l1.length : Int) := oda
                          obtain ⟨ad108, e108, hx108_0⟩ := Kd.at_int HR1.out x17_2 p108 q108
                          cases e108
                          replace hx108_0 := hc HB hx108_0
                          replace p108 := eq_true p108
                          replace q108 := eq_true q108
                          obtain ⟨Z19_0, Z19_1, Z19_2, Z19_3, Z19_4, Y19_0, Y19_1, Y19_2, Y19_3, Y19_4⟩ := bq5 BK107
                          obtain ⟨i020, hi020, _, hsz20, _⟩ := info_parts info3
                          obtain ⟨hcut20, hA20, hC20⟩ := print_take_of (P := Tryd.prog) (Value.int .i64) 0 61 3 .i64 Tryd.underlying61 hi020 hsz20 (some ad108) c1 l1 x17_2 (oda) (oda) HC1.out
                          have HR109 := am (Kd.C_of_reads (h1 := fun _ => rfl) (hA20 _ (Kd.reads_of_C HR1.out)))
                          have HC109 := am hC20
                          clear hA20 hC20 hi020 hsz20
                          go_wp2_with (first | (go_at_call 166; refine calls_of_args (args' := #[.slice (some ad108) (l1.take (x17_2 : Int).toNat).length c1, .int .i64 (rd l1 x17_2)]) (by first | (rw [show (l1.take (x17_2 : Int).toNat).length = x17_2.toNat from (by rw [List.length_take]; have h_ : (x17_2 : Int) ≤ (l1.length : Int) := oda; omega)] <;> rfl) | rfl) ?_; (with_reducible refine (slices_Contains_int_int.calls k2 _ _ (l1.take (x17_2 : Int).toNat) (rd l1 x17_2) false _ ?side1 HC109.out A15.out).mono ?_); (case side1 => exact Kd.cb HR109 HB); rintro e w' ⟨rfl, ⟨nd, rfl⟩⟩))
                          go_roundg k2
                          case measure => have := HJ2.out; have := HK2.out; omega
                          case rel => exact ⟨(wrap64 (x17_2 + 1)), eb, H', ⟨by have := HJ2.out; have := HK2.out; omega⟩, ⟨bk BK107⟩, ⟨bl HB⟩⟩
                      · rw [if_neg c14] at H
                        exact absurd H (by simp)
                · rw [if_neg c9] at H
                  exact absurd H (by simp)
              · rw [if_neg c8] at H
                exact absurd H (by simp)
            · rw [if_neg c7] at H
              have c7b0 : decide (x17_2 < (l1.length : Int)) = false := decide_eq_false c7
              clear c7
              obtain rfl := Option.some.inj H
              go_wp2
              go_ret
              exact ⟨er, bl HB⟩
end Go.Proofs.YtpiifdbicibelaaDoor.PA
end
section
namespace Go.Proofs.YtpiifdbicibelaaDoor.Pure
open Go.RowKit Go.Proofs Go.Proofs.YtpiifdbicibelaaDoorW.PrintWords Go.Proofs.YtpiifdbicibelaaDoorW.PrintLast Go.Proofs.YtpiifdbicibelaaDoorW.PrintMore Go.Proofs.YtpiifdbicibelaaDoor.PA Go.Proofs.YtpiifdbicibelaaDoor.OpenK
set_option linter.unusedVariables false
set_option linter.unusedSimpArgs false
def smallB (b : UInt8) : Bool := b == 95 || (decide (97 ≤ b.toNat) && decide (b.toNat ≤ 122))
def digitB (b : UInt8) : Bool := decide (48 ≤ b.toNat) && decide (b.toNat ≤ 57)
def wordB (l : List UInt8) : Bool := Lib.contains schemaWords.data.toList (32 :: l ++ [32])
/-- May a text be a name? -/
def nameOk (s : ByteArray) : Bool :=
  !s.data.toList.isEmpty && decide (s.data.toList.length ≤ 63) && smallB (s.data.toList.headD 0) && !wordB s.data.toList && s.data.toList.all (fun b => smallB b || digitB b)
theorem bt_get (s : ByteArray) (i : Nat) (h : i < s.data.toList.length) : bt s (i : Int) = ((s.data.toList[i]'h).toNat : Int) := by
  unfold bt
  simp only [Int.toNat_natCast]
  rw [dif_pos (by simpa using h)]
  rfl
theorem small_f (b : UInt8) : schema_small.f (b.toNat : Int) = some (smallB b) := by
  unfold schema_small.f smallB
  by_cases h : b = 95
  · subst h; rfl
  · have h' : ¬ (b.toNat : Int) = 95 := fun e => h (UInt8.toNat_inj.1 (show b.toNat = (95 : UInt8).toNat by show b.toNat = 95; omega))
    have h2 : (b == 95) = false := by simpa using h
    rw [if_neg h', h2]
    by_cases h3 : 97 ≤ b.toNat
    · rw [if_pos (by omega)]; simp [h3]
      omega
    · rw [if_neg (by omega)]; simp [h3]
theorem digit_f (b : UInt8) : schema_digit.f (b.toNat : Int) = some (digitB b) := by
  unfold schema_digit.f digitB
  by_cases h3 : 48 ≤ b.toNat
  · rw [if_pos (by omega)]; simp [h3]
    omega
  · rw [if_neg (by omega)]; simp [h3]
theorem data_len (s : ByteArray) : s.data.toList.length = s.size := by simp
theorem name_l0 (s : ByteArray) (hs : s.size ≤ 140737488351232) : ∀ (m i : Nat), i + m = s.size → Ev (fun k => schema_Name.l0 k s (s.size : Int) (i : Int)) ((s.data.toList.drop i).all (fun b => smallB b || digitB b)) := by
  intro m
  induction m with
  | zero =>
    intro i hi
    rw [List.drop_of_length_le (by rw [data_len]; omega)]
    refine Ev.from_ 1 fun k => ?_
    simp only [schema_Name.l0]
    rw [if_neg (by omega)]; rfl
  | succ m ih =>
    intro i hi
    have hlt : i < s.data.toList.length := by rw [data_len]; omega
    have hb := bt_get s i hlt
    rw [List.drop_eq_getElem_cons hlt]
    generalize s.data.toList[i]'hlt = b at hb
    refine Ev.step (g := fun k => (schema_small.f (bt s (i : Int))).bind fun t103 => if t103 = true then schema_Name.l0 k s (s.size : Int) ((i + 1 : Nat) : Int) else (schema_digit.f (bt s (i : Int))).bind fun t104 => if t104 = true then schema_Name.l0 k s (s.size : Int) ((i + 1 : Nat) : Int) else some false) (fun k => ?_) ?_
    · simp only [schema_Name.l0]
      rw [if_pos (by omega), if_pos (by omega), if_pos (by omega), wrap64_id (by omega) (by omega)]
      rfl
    · rw [hb]
      refine Ev.bind (Ev.const (small_f b)) ?_
      have ih' := ih (i + 1) (by omega)
      cases h1 : smallB b
      · refine Ev.neg (by decide) (Ev.bind (Ev.const (digit_f b)) ?_)
        cases h2 : digitB b
        · refine Ev.neg (by decide) ?_
          simp [h1, h2]; exact Ev.pure
        · refine Ev.pos rfl ?_
          simpa [h1, h2] using ih'
      · refine Ev.pos rfl ?_
        simpa [h1] using ih'
theorem name_code (s : ByteArray) (hs : s.size ≤ 140737488351232) : Ev (fun k => schema_Name.f k s) (nameOk s) := by
  have hj : ∀ b : Bool, Ev (fun k => schema_Name.j0 k s b) (!b && s.data.toList.all (fun b => smallB b || digitB b)) := by
    intro b
    cases b
    · refine Ev.step (g := fun k => schema_Name.l0 k s (s.size : Int) ((0 : Nat) : Int)) (fun k => ?_) ?_
      · simp only [schema_Name.j0]; rw [if_neg (by decide)]; rfl
      · simpa using name_l0 s hs s.size 0 (by omega)
    · refine Ev.from_ 1 fun k => ?_
      simp [schema_Name.j0]
  simp only [schema_Name.f]
  have hl := data_len s
  rw [Lib.toList_data]
  unfold nameOk
  generalize hL : s.data.toList = L at *
  cases L with
  | nil =>
    refine Ev.pos rfl ?_
    have := hj true
    simpa using this
  | cons b l =>
    have hb : bt s 0 = (b.toNat : Int) := by
      have := bt_get s 0 (by rw [hL]; simp)
      simpa [hL] using this
    refine Ev.neg (by simp) ?_
    by_cases h1 : (s.size : Int) > 63
    · refine Ev.pos h1 ?_
      have e : decide ((b :: l).length ≤ 63) = false := decide_eq_false (by omega)
      rw [e]
      simpa using hj true
    · refine Ev.neg h1 (Ev.pos (by simp at hl; omega) ?_)
      have e : decide ((b :: l).length ≤ 63) = true := decide_eq_true (by omega)
      rw [e, hb]
      refine Ev.bind (Ev.const (small_f b)) ?_
      cases h2 : smallB b
      · refine Ev.neg (by decide) ?_
        simpa [h2] using hj true
      · refine Ev.pos rfl ?_
        have hw : schema_word.f s = some (wordB (b :: l)) := by
          unfold schema_word.f wordB
          rw [if_pos (by omega), hL]
        refine Ev.bind (Ev.const hw) ?_
        simpa [h2] using hj (wordB (b :: l))
/-- Are these 1 to 64 columns of so many, none twice? -/
def colsOk (n : Nat) (l : List Int) : Bool := decide (1 ≤ l.length) && decide (l.length ≤ 64) && l.all (fun x => decide (0 ≤ x) && decide (x < n)) && decide l.Nodup
theorem rd_getI (l : List Int) (i : Nat) (h : i < l.length) : rd l (i : Int) = l[i] := by
  unfold rd; simp [List.getD, List.getElem?_eq_getElem h]
theorem index_ev (l : List Int) (x : Int) (hl : l.length < 9223372036854775807) : ∀ (m i : Nat), i + m = l.length → Ev (fun k => slices_Index_int_int.l0 k l x (l.length : Int) (i : Int)) (if x ∈ l.drop i then ((i + (l.drop i).idxOf x : Nat) : Int) else -1) := by
  intro m
  induction m with
  | zero =>
    intro i hi
    rw [List.drop_of_length_le (by omega)]
    refine Ev.from_ 1 fun k => ?_
    simp only [slices_Index_int_int.l0]
    rw [if_neg (by omega)]; simp
  | succ m ih =>
    intro i hi
    have hlt : i < l.length := by omega
    refine Ev.step (g := fun k => if x = l[i] then some (i : Int) else slices_Index_int_int.l0 k l x (l.length : Int) ((i + 1 : Nat) : Int)) (fun k => ?_) ?_
    · simp only [slices_Index_int_int.l0]
      rw [if_pos (by omega), if_pos (by omega), if_pos (by omega), wrap64_id (by omega) (by omega), rd_getI l i hlt]
      rfl
    · have hd := List.drop_eq_getElem_cons hlt
      generalize l[i] = y at hd ⊢
      rw [hd]
      by_cases h : x = y
      · refine Ev.pos h ?_
        subst h
        simp; exact Ev.pure
      · refine Ev.neg h ?_
        have := ih (i + 1) (by omega)
        have h' : ¬ y = x := fun e => h e.symm
        by_cases hm : x ∈ l.drop (i + 1)
        · rw [if_pos hm] at this
          rw [if_pos (List.mem_cons_of_mem _ hm), List.idxOf_cons]
          have e : (y == x) = false := by simpa using h'
          rw [e]
          have e2 : i + (bif false then 0 else (l.drop (i + 1)).idxOf x + 1) = i + 1 + (l.drop (i + 1)).idxOf x := by simp; omega
          rw [e2]; exact this
        · rw [if_neg hm] at this
          rw [if_neg (by rw [List.mem_cons]; rintro (g | g); exact h g; exact hm g)]; exact this
theorem contains_ev (l : List Int) (x : Int) (hl : l.length < 9223372036854775807) : Ev (fun k => slices_Contains_int_int.f k l x) (decide (x ∈ l)) := by
  have h := index_ev l x hl l.length 0 (by omega)
  simp only [slices_Contains_int_int.f, slices_Index_int_int.f]
  refine Ev.bind h ?_
  by_cases hm : x ∈ l
  · simp [hm]; exact Ev.const (by congr 1)
  · simp [hm]; exact Ev.pure
theorem columnsOf_ev (a : ByteArray) (c : List S105) (d : List Int) (e : List S115) (f : List S139) (l : List Int) (hl : l.length < 9223372036854775807) : Ev (fun k => schema_columnsOf.f k a c d e f l) (colsOk c.length l) := by
  classical
  have hloop : ∀ (m i : Nat), i + m = l.length → Ev (fun k => schema_columnsOf.l0 k l l (l.length : Int) (i : Int) a c d e f)
      (decide (∀ j, i ≤ j → ∀ h : j < l.length, (0 ≤ l[j] ∧ l[j] < c.length) ∧ l[j] ∉ l.take j)) := by
    intro m
    induction m with
    | zero =>
      intro i hi
      refine Ev.from_ 1 fun k => ?_
      simp only [schema_columnsOf.l0]
      rw [if_neg (by omega)]
      congr 1
      exact (decide_eq_true (fun j h1 h2 => by omega)).symm
    | succ m ih =>
      intro i hi
      have hlt : i < l.length := by omega
      refine Ev.step (g := fun k => if l[i] < 0 then some false else if l[i] ≥ (c.length : Int) then some false else (slices_Contains_int_int.f k (l.take i) l[i]).bind fun t110 => if t110 = true then some false else schema_columnsOf.l0 k l l (l.length : Int) ((i + 1 : Nat) : Int) a c d e f) (fun k => ?_) ?_
      · simp only [schema_columnsOf.l0]
        rw [if_pos (by omega), if_pos (by omega), if_pos (by omega), rd_getI l i hlt]
        rw [if_pos (c := (i : Int) ≤ (l.length : Int)) (by omega), wrap64_id (by omega) (by omega)]
        rfl
      · by_cases h1 : l[i] < 0
        · refine Ev.pos h1 ?_
          rw [decide_eq_false (fun g => by have := (g i (Nat.le_refl _) hlt).1.1; omega)]
          exact Ev.pure
        refine Ev.neg h1 ?_
        by_cases h2 : l[i] ≥ (c.length : Int)
        · refine Ev.pos h2 ?_
          rw [decide_eq_false (fun g => by have := (g i (Nat.le_refl _) hlt).1.2; omega)]
          exact Ev.pure
        refine Ev.neg h2 (Ev.bind (contains_ev (l.take i) l[i] (by simp; omega)) ?_)
        by_cases h3 : l[i] ∈ l.take i
        · refine Ev.pos (decide_eq_true h3) ?_
          rw [decide_eq_false (fun g => (g i (Nat.le_refl _) hlt).2 h3)]
          exact Ev.pure
        · refine Ev.neg (by simp [h3]) ?_
          have := ih (i + 1) (by omega)
          have e2 : decide (∀ j, i + 1 ≤ j → ∀ h : j < l.length, (0 ≤ l[j] ∧ l[j] < c.length) ∧ l[j] ∉ l.take j) = decide (∀ j, i ≤ j → ∀ h : j < l.length, (0 ≤ l[j] ∧ l[j] < c.length) ∧ l[j] ∉ l.take j) := by
            rw [decide_eq_decide]
            constructor
            · intro g j h4 h5
              rcases Nat.lt_or_ge i j with h6 | h6
              · exact g j h6 h5
              · obtain rfl : j = i := by omega
                exact ⟨⟨by omega, by omega⟩, h3⟩
            · exact fun g j h4 h5 => g j (by omega) h5
          rw [← e2]; exact this
  have hnd : decide (∀ j, 0 ≤ j → ∀ h : j < l.length, (0 ≤ l[j] ∧ l[j] < c.length) ∧ l[j] ∉ l.take j) = (l.all (fun x => decide (0 ≤ x) && decide (x < c.length)) && decide l.Nodup) := by
    rw [Bool.eq_iff_iff, decide_eq_true_eq, Bool.and_eq_true, List.all_eq_true, decide_eq_true_eq]
    constructor
    · intro g
      refine ⟨fun x hx => ?_, ?_⟩
      · obtain ⟨j, hj, rfl⟩ := List.getElem_of_mem hx
        have := (g j (Nat.zero_le _) hj).1
        simp; omega
      · rw [List.nodup_iff_pairwise_ne, List.pairwise_iff_getElem]
        intro i j hi hj hij e
        exact (g j (Nat.zero_le _) hj).2 (by rw [← e]; exact List.mem_take_iff_getElem.2 ⟨i, by omega, rfl⟩)
    · rintro ⟨g1, g2⟩ j _ hj
      have h1 := g1 l[j] (List.getElem_mem hj)
      simp at h1
      refine ⟨h1, fun hm => ?_⟩
      obtain ⟨i, hi, e⟩ := List.mem_take_iff_getElem.1 hm
      rw [List.nodup_iff_pairwise_ne, List.pairwise_iff_getElem] at g2
      exact g2 i j (by omega) hj (by omega) e
  have hj : ∀ b : Bool, Ev (fun k => schema_columnsOf.j0 k l b a c d e f) (!b && (l.all (fun x => decide (0 ≤ x) && decide (x < c.length)) && decide l.Nodup)) := by
    intro b
    cases b
    · refine Ev.step (g := fun k => schema_columnsOf.l0 k l l (l.length : Int) ((0 : Nat) : Int) a c d e f) (fun k => ?_) ?_
      · simp only [schema_columnsOf.j0]; rw [if_neg (by decide)]; rfl
      · have := hloop l.length 0 (by omega)
        rw [hnd] at this
        simpa using this
    · refine Ev.from_ 1 fun k => ?_
      simp [schema_columnsOf.j0]
  simp only [schema_columnsOf.f]
  unfold colsOk
  by_cases h1 : (l.length : Int) < 1
  · refine Ev.pos h1 ?_
    have : decide (1 ≤ l.length) = false := decide_eq_false (by omega)
    simpa [this] using hj true
  · refine Ev.neg h1 ?_
    have e1 : decide (1 ≤ l.length) = true := decide_eq_true (by omega)
    have e2 : decide (l.length ≤ 64) = !decide ((l.length : Int) > 64) := by
      by_cases h : l.length ≤ 64
      · rw [decide_eq_true h, decide_eq_false (by omega)]; rfl
      · rw [decide_eq_false h, decide_eq_true (by omega)]; rfl
    have := hj (decide ((l.length : Int) > 64))
    rw [e1, e2]
    simpa [Bool.and_assoc] using this
end Go.Proofs.YtpiifdbicibelaaDoor.Pure
end
section
namespace Go.Proofs.YtpiifdbicibelaaDoor.PA
open Go.RowKit Go.Proofs Go.Proofs.YtpiifdbicibelaaDoorW.PrintWords Go.Proofs.YtpiifdbicibelaaDoorW.PrintLast Go.Proofs.YtpiifdbicibelaaDoorW.PrintMore Go.Proofs.YtpiifdbicibelaaDoor.Pure
set_option linter.unusedVariables false
set_option linter.unusedSimpArgs false
theorem name_any (s : ByteArray) (w : World) (hG : Glob w) (hs : s.size ≤ 140737488351232) : Calls Tryd.prog 124 #[.string s] w fun e w' => e = .returned (.bool (nameOk s)) ∧ Below w.heap.size w w' := by
  obtain ⟨k, h⟩ := (name_code s hs).ex
  exact schema_Name.calls k s _ w hG h
theorem vcheck_any (a b : Int) (c : Nat) (d : ByteArray) (w : World) (hG : Glob w) (hs : d.size ≤ 140737488351232) : Calls Tryd.prog 67 #[.agg #[.int .i64 a, .int .i64 b, .float .f64 c, .string d]] w fun e w' => e = .returned (.int .i64 (chk a b c d)) ∧ Below w.heap.size w w' :=
  value_Check.calls 6 a b c d _ w hG (check_code 0 a b c d hs)
/-- A column's cells. -/
def cells105 (x : S105) : Array Value := #[.string x.f0, .int .i64 x.f1, .bool x.f2, .int .i64 x.f3.f0, .int .i64 x.f3.f1, .float .f64 x.f3.f2, .string x.f3.f3]
def idxF {α : Type} (p : α → Bool) (xs : List α) : Int := if xs.any p then (xs.findIdx p : Int) else -1
theorem idxF_nonneg {α : Type} (p : α → Bool) (xs : List α) : decide (idxF p xs ≥ 0) = xs.any p := by
  unfold idxF; cases h : xs.any p <;> simp
theorem any_take {α : Type} {p : α → Bool} {xs : List α} {k : Nat} {y : α} (hy : xs[k]? = some y) (h : ∀ x ∈ xs.take k, p x = false) (hp : p y = true) : idxF p xs = (k : Int) := by
  have hk : k < xs.length := (List.getElem?_eq_some_iff.1 hy).1
  have hyk : xs[k] = y := (List.getElem?_eq_some_iff.1 hy).2
  unfold idxF
  rw [if_pos (List.any_eq_true.2 ⟨y, List.mem_of_getElem? hy, hp⟩)]
  congr 1
  rw [List.findIdx_eq hk]
  refine ⟨by rw [hyk]; exact hp, fun j hj => ?_⟩
  have := h xs[j] (List.mem_take_iff_getElem.2 ⟨j, by omega, rfl⟩)
  simpa using this
theorem any_none {α : Type} {p : α → Bool} {xs : List α} (h : ∀ x ∈ xs.take xs.length, p x = false) : idxF p xs = -1 := by
  unfold idxF
  rw [if_neg]
  rw [List.any_eq_true]
  rintro ⟨x, hx, hp⟩
  rw [h x (by simpa using hx)] at hp
  cases hp
theorem take_step {α : Type} {p : α → Bool} {xs : List α} {k : Nat} {y : α} (hy : xs[k]? = some y) (h : ∀ x ∈ xs.take k, p x = false) (hp : p y = false) : ∀ x ∈ xs.take (k + 1), p x = false := by
  intro x hx
  rw [List.take_add_one, hy] at hx
  rcases List.mem_append.1 hx with h1 | h1
  · exact h x h1
  · simp at h1; subst h1; exact hp
theorem rd105_get {xs : List S105} {k : Nat} (hk : k < xs.length) : xs[k]? = some (rd_T105 xs (k : Int)) := by
  unfold rd_T105; simp [List.getD, List.getElem?_eq_getElem hk]
set_option maxHeartbeats 2000000 in
set_option maxRecDepth 100000 in
theorem idxf_cols (p : S105 → Bool) (g : Nat) (lb : Array Value) (eg : ∀ args w, (callFunc g args).run Tryd.prog w = .ok (.enter g args) w) (A : Option Addr) (xs : List S105) (c : Nat) (w : World) (hC : Kd.C k105 w A xs.length xs)
    (hp : ∀ (W : World) (x : S105), Below w.heap.size w W → Calls Tryd.prog g (#[.agg (cells105 x)] ++ lb) W fun e w' => e = .returned (.bool (p x)) ∧ Below w.heap.size w w') :
    Calls Tryd.prog 183 #[.slice A xs.length c, .func (.func g) #[] lb] w fun e w' => e = .returned (.int .i64 (idxF p xs)) ∧ Below w.heap.size w w' := by
  have HC := Aside0.mk hC
  have hmax : xs.length ≤ 9223372036854775807 := hC.2.1
  clear hC
  go_enter Tryd.func183, Tryd.ntmps183
  go_wp2
  go_loopg [5, 8] xs.length (fun gg _ s8 wr => ∃ kk : Nat, s8 = .int .i64 kk ∧ Aside0 (kk ≤ xs.length) ∧ Aside0 (xs.length - kk ≤ gg) ∧ Aside0 (Below w.heap.size w wr) ∧ Aside0 (∀ x ∈ xs.take kk, p x = false))
  case atStart => exact ⟨0, rfl, ⟨Nat.zero_le _⟩, ⟨by omega⟩, ⟨Below.refl _ w⟩, ⟨fun x hx => by simp at hx⟩⟩
  case round =>
    obtain ⟨kk, rfl, HK, HM, HB, HN⟩ := hrel
    have hkk := HK.out
    by_cases hlt : kk < xs.length
    · have hltz : (kk : Int) < (xs.length : Int) := by omega
      obtain ⟨ad, e, hx0, hx1, hx2, hx3, hx4, hx5, hx6⟩ := at_T105 HC.out (kk : Int) (by omega) hltz
      subst e
      simp only [Int.toNat_natCast] at hx0 hx1 hx2 hx3 hx4 hx5 hx6
      replace hx0 := (HB.out.cell (World.block_lt_of_cell? w _ hx0)).trans hx0
      replace hx1 := (HB.out.cell (World.block_lt_of_cell? w _ hx1)).trans hx1
      replace hx2 := (HB.out.cell (World.block_lt_of_cell? w _ hx2)).trans hx2
      replace hx3 := (HB.out.cell (World.block_lt_of_cell? w _ hx3)).trans hx3
      replace hx4 := (HB.out.cell (World.block_lt_of_cell? w _ hx4)).trans hx4
      replace hx5 := (HB.out.cell (World.block_lt_of_cell? w _ hx5)).trans hx5
      replace hx6 := (HB.out.cell (World.block_lt_of_cell? w _ hx6)).trans hx6
      have hy := rd105_get hlt
      generalize rd_T105 xs (kk : Int) = y at hx0 hx1 hx2 hx3 hx4 hx5 hx6 hy
      have HY := Aside0.mk hy
      have hcall := hp wr y HB.out
      unfold cells105 at hcall
      clear hy hp
      cases hq : p y with
      | true =>
        rw [hq] at hcall
        go_wp2_with (go_at_fn g; refine hcall.mono ?_; rintro e w' ⟨rfl, hb'⟩)
        go_ret
        exact ⟨by rw [any_take HY.out HN.out hq]; rfl, hb'⟩
      | false =>
        rw [hq] at hcall
        go_wp2_with (go_at_fn g; refine hcall.mono ?_; rintro e w' ⟨rfl, hb'⟩)
        go_roundg (xs.length - (kk + 1))
        case measure => have := HM.out; omega
        case rel => exact ⟨kk + 1, by go_num, ⟨by omega⟩, ⟨Nat.le_refl _⟩, ⟨hb'⟩, ⟨take_step HY.out HN.out hq⟩⟩
    · obtain rfl : kk = xs.length := by omega
      have hltz : ¬ (xs.length : Int) < (xs.length : Int) := by omega
      go_wp2
      go_ret
      exact ⟨by rw [any_none HN.out]; rfl, HB.out⟩
/-- The closure of checkColumns: has this column the name of that one? -/
theorem closure_col (c : S105) (B : Nat) (w : World) (hB : B < w.heap.size) (hc : w.cell? ⟨B, 0, none⟩ = some (.string c.f0)) :
    ∀ (W : World) (x : S105), Below w.heap.size w W → Calls Tryd.prog 165 (#[.agg (cells105 x)] ++ #[.pointer (some ⟨B, 0, none⟩)]) W fun e w' => e = .returned (.bool (x.f0.toList == c.f0.toList)) ∧ Below w.heap.size w w' := by
  intro W x hb
  have hcW : W.cell? ⟨B, 0, none⟩ = some (.string c.f0) := (hb.cell (p := ⟨B, 0, none⟩) hB).trans hc
  have hBW : B < W.heap.size := Nat.lt_of_lt_of_le hB hb.size
  have hne : B ≠ W.heap.size := by omega
  show Calls Tryd.prog 165 #[.agg #[.string x.f0, .int .i64 x.f1, .bool x.f2, .int .i64 x.f3.f0, .int .i64 x.f3.f1, .float .f64 x.f3.f2, .string x.f3.f3], .pointer (some ⟨B, 0, none⟩)] W _
  go_enter Tryd.func165, Tryd.ntmps165
  go_wp2
  go_ret
  exact ⟨rfl, hb.alloc hb.size _⟩
theorem containsf_cols (p : S105 → Bool) (g : Nat) (lb : Array Value) (eg : ∀ args w, (callFunc g args).run Tryd.prog w = .ok (.enter g args) w) (A : Option Addr) (xs : List S105) (c : Nat) (w : World) (hC : Kd.C k105 w A xs.length xs)
    (hp : ∀ (W : World) (x : S105), Below w.heap.size w W → Calls Tryd.prog g (#[.agg (cells105 x)] ++ lb) W fun e w' => e = .returned (.bool (p x)) ∧ Below w.heap.size w w') :
    Calls Tryd.prog 164 #[.slice A xs.length c, .func (.func g) #[] lb] w fun e w' => e = .returned (.bool (xs.any p)) ∧ Below w.heap.size w w' := by
  have h := idxf_cols p g lb eg A xs c w hC hp
  have hn := idxF_nonneg p xs
  generalize idxF p xs = r at h hn
  have HN := Aside0.mk hn
  clear hn hp hC
  go_enter Tryd.func164, Tryd.ntmps164
  go_wp2_with fail
  refine h.mono ?_
  rintro e w' ⟨rfl, hb⟩
  go_wp2
  go_ret
  refine ⟨?_, hb⟩
  rw [← HN.out]; rfl
/-- Has a column a kind that is none, or a default that may not be? -/
def colBad (c : S105) : Bool := decide (c.f1 < 1) || decide (5 < c.f1) || (chk c.f3.f0 c.f3.f1 c.f3.f2 c.f3.f3 != 0) || (c.f3.f0 != 0 && c.f3.f0 != c.f1)
/-- Why columns may not be, those ahead of them being so many. -/
def colErrs (pre : List S105) : List S105 → Int
  | [] => 0
  | c :: l => if nameOk c.f0 = false then 30 else if pre.any (fun x => x.f0.toList == c.f0.toList) = true then 31 else if colBad c = true then 32 else colErrs (pre ++ [c]) l
def wfC (c : S105) : Prop := c.f0.size ≤ 140737488351232 ∧ c.f3.f3.size ≤ 140737488351232
set_option maxHeartbeats 8000000 in
set_option maxRecDepth 100000 in
theorem checkColumns_any (a0_0 : ByteArray) (A0_1 : Option Addr) (c0_1 : Nat) (l0_1 : List (S105)) (A0_2 : Option Addr) (c0_2 : Nat) (l0_2 : List Int) (A0_3 : Option Addr) (c0_3 : Nat) (l0_3 : List (S115)) (A0_4 : Option Addr) (c0_4 : Nat) (l0_4 : List (S139)) (w : World) (hr0_1 : Kd.C k105 w A0_1 l0_1.length l0_1) (hc0_1 : l0_1.length ≤ c0_1) (hG : Glob w) (hw : ∀ c ∈ l0_1, wfC c) :
    Calls Tryd.prog 125 #[.agg #[.string a0_0, .slice A0_1 l0_1.length c0_1, .slice A0_2 l0_2.length c0_2, .slice A0_3 l0_3.length c0_3, .slice A0_4 l0_4.length c0_4]] w fun e w' => e = .returned (.int .i64 (colErrs [] l0_1)) ∧ Below w.heap.size w w' := by
  have HC := Aside0.mk hr0_1
  have hmax : l0_1.length ≤ 9223372036854775807 := hr0_1.2.1
  have HCAP := Aside0.mk hc0_1
  have HG := Aside0.mk hG
  have HW := Aside0.mk hw
  clear hr0_1 hc0_1 hG hw
  obtain ⟨R, hR⟩ : ∃ R, colErrs [] l0_1 = R := ⟨_, rfl⟩
  rw [hR]
  have HR := Aside0.mk hR
  clear hR
  go_enter Tryd.func125, Tryd.ntmps125
  go_wp2
  go_loopg [9] l0_1.length (fun gg s9 wr => ∃ i : Nat, s9 = .int .i64 i ∧ Aside0 (i ≤ l0_1.length) ∧ Aside0 (l0_1.length - i ≤ gg) ∧ Aside0 (colErrs (l0_1.take i) (l0_1.drop i) = R) ∧ Aside0 (Below (w.heap.size + 1) (w.alloc (.cells #[.string a0_0, .slice A0_1 l0_1.length c0_1, .slice A0_2 l0_2.length c0_2, .slice A0_3 l0_3.length c0_3, .slice A0_4 l0_4.length c0_4] 65)) wr))
  case atStart => exact ⟨0, rfl, ⟨Nat.zero_le _⟩, ⟨by omega⟩, ⟨HR.out⟩, ⟨Below.refl _ _⟩⟩
  case round =>
    obtain ⟨i, rfl, HK, HM, HE, HB⟩ := hrel
    have hkk := HK.out
    have hz0 : w.heap.size < wr.heap.size := by have := HB.out.size; simp at this; omega
    have HBW : Aside0 (Below w.heap.size w wr) := ⟨((Below.refl _ w).alloc (Nat.le_refl _) _).trans (HB.out.mono (by omega))⟩
    have t0_0 : wr.cell? ⟨w.heap.size, 0, none⟩ = some (.string a0_0) := (HB.out.cell (p := ⟨w.heap.size, 0, none⟩) (by simp)).trans (by simp)
    have t0_1 : wr.cell? ⟨w.heap.size, 1, none⟩ = some (.slice A0_1 l0_1.length c0_1) := (HB.out.cell (p := ⟨w.heap.size, 1, none⟩) (by simp)).trans (by simp)
    have t0_2 : wr.cell? ⟨w.heap.size, 2, none⟩ = some (.slice A0_2 l0_2.length c0_2) := (HB.out.cell (p := ⟨w.heap.size, 2, none⟩) (by simp)).trans (by simp)
    have t0_3 : wr.cell? ⟨w.heap.size, 3, none⟩ = some (.slice A0_3 l0_3.length c0_3) := (HB.out.cell (p := ⟨w.heap.size, 3, none⟩) (by simp)).trans (by simp)
    have t0_4 : wr.cell? ⟨w.heap.size, 4, none⟩ = some (.slice A0_4 l0_4.length c0_4) := (HB.out.cell (p := ⟨w.heap.size, 4, none⟩) (by simp)).trans (by simp)
    by_cases hlt : i < l0_1.length
    · have hltz : (i : Int) < (l0_1.length : Int) := by omega
      have hcap : (i : Int) ≤ (c0_1 : Int) := by have := HCAP.out; omega
      obtain ⟨ad, e, hx0, hx1, hx2, hx3, hx4, hx5, hx6⟩ := at_T105 HC.out (i : Int) (by omega) hltz
      subst e
      simp only [Int.toNat_natCast] at hx0 hx1 hx2 hx3 hx4 hx5 hx6
      replace hx0 := (HBW.out.cell (World.block_lt_of_cell? w _ hx0)).trans hx0
      replace hx1 := (HBW.out.cell (World.block_lt_of_cell? w _ hx1)).trans hx1
      replace hx2 := (HBW.out.cell (World.block_lt_of_cell? w _ hx2)).trans hx2
      replace hx3 := (HBW.out.cell (World.block_lt_of_cell? w _ hx3)).trans hx3
      replace hx4 := (HBW.out.cell (World.block_lt_of_cell? w _ hx4)).trans hx4
      replace hx5 := (HBW.out.cell (World.block_lt_of_cell? w _ hx5)).trans hx5
      replace hx6 := (HBW.out.cell (World.block_lt_of_cell? w _ hx6)).trans hx6
      have hy := rd105_get hlt
      generalize rd_T105 l0_1 (i : Int) = y at hx0 hx1 hx2 hx3 hx4 hx5 hx6 hy
      have HY := Aside0.mk hy
      have HD : Aside0 (l0_1.drop i = y :: l0_1.drop (i + 1)) := ⟨by rw [List.drop_eq_getElem_cons hlt]; congr 1; exact (List.getElem?_eq_some_iff.1 hy).2⟩
      have HT : Aside0 (l0_1.take (i + 1) = l0_1.take i ++ [y]) := ⟨by rw [List.take_add_one, hy]; rfl⟩
      have HWY : Aside0 (wfC y) := ⟨HW.out y (List.mem_of_getElem? hy)⟩
      clear hy
      have hl : (l0_1.take i).length = i := by simp; omega
      have hcon := containsf_cols (fun x => x.f0.toList == y.f0.toList) 165 #[.pointer (some ⟨wr.heap.size, 0, none⟩)] (enters_of Tryd.func165 (by kernel_rfl) rfl) (some ad) (l0_1.take i) c0_1 (wr.alloc (.cells #[.string y.f0, .int .i64 y.f1, .bool y.f2, .int .i64 y.f3.f0, .int .i64 y.f3.f1, .float .f64 y.f3.f2, .string y.f3.f3] 105))
        (Kd.C_take (Kd.C_below HC.out (HBW.out.alloc HBW.out.size _)) (by omega)) (closure_col y wr.heap.size _ (by simp) (by simp))
      rw [hl] at hcon
      have HCON := Aside0.mk hcon
      clear hcon hl
      obtain ⟨tw, htw⟩ : ∃ tw, (l0_1.take i).any (fun x => x.f0.toList == y.f0.toList) = tw := ⟨_, rfl⟩
      rw [htw] at HCON
      have HTW := Aside0.mk htw
      clear htw
      go_wp2_with fail
      refine HCON.out.mono ?_
      rintro e w2 ⟨rfl, hb2⟩
      have hz2 : wr.heap.size < w2.heap.size := by have := hb2.size; simp at this; omega
      have HB2 : Aside0 (Below (w.heap.size + 1) (w.alloc (.cells #[.string a0_0, .slice (some ad) l0_1.length c0_1, .slice A0_2 l0_2.length c0_2, .slice A0_3 l0_3.length c0_3, .slice A0_4 l0_4.length c0_4] 65)) w2) := ⟨(HB.out.alloc (by omega) _).trans (hb2.mono (by simp; omega))⟩
      have HBW2 : Aside0 (Below w.heap.size w w2) := ⟨((Below.refl _ w).alloc (Nat.le_refl _) _).trans (HB2.out.mono (by omega))⟩
      have t2_0 : w2.cell? ⟨w.heap.size, 0, none⟩ = some (.string a0_0) := (HB2.out.cell (p := ⟨w.heap.size, 0, none⟩) (by simp)).trans (by simp)
      have t2_1 : w2.cell? ⟨w.heap.size, 1, none⟩ = some (.slice (some ad) l0_1.length c0_1) := (HB2.out.cell (p := ⟨w.heap.size, 1, none⟩) (by simp)).trans (by simp)
      have t2_2 : w2.cell? ⟨w.heap.size, 2, none⟩ = some (.slice A0_2 l0_2.length c0_2) := (HB2.out.cell (p := ⟨w.heap.size, 2, none⟩) (by simp)).trans (by simp)
      have t2_3 : w2.cell? ⟨w.heap.size, 3, none⟩ = some (.slice A0_3 l0_3.length c0_3) := (HB2.out.cell (p := ⟨w.heap.size, 3, none⟩) (by simp)).trans (by simp)
      have t2_4 : w2.cell? ⟨w.heap.size, 4, none⟩ = some (.slice A0_4 l0_4.length c0_4) := (HB2.out.cell (p := ⟨w.heap.size, 4, none⟩) (by simp)).trans (by simp)
      have b2_0 : w2.cell? ⟨wr.heap.size, 0, none⟩ = some (.string y.f0) := (hb2.cell (p := ⟨wr.heap.size, 0, none⟩) (by simp)).trans (by simp)
      have b2_1 : w2.cell? ⟨wr.heap.size, 1, none⟩ = some (.int .i64 y.f1) := (hb2.cell (p := ⟨wr.heap.size, 1, none⟩) (by simp)).trans (by simp)
      have b2_2 : w2.cell? ⟨wr.heap.size, 2, none⟩ = some (.bool y.f2) := (hb2.cell (p := ⟨wr.heap.size, 2, none⟩) (by simp)).trans (by simp)
      have b2_3 : w2.cell? ⟨wr.heap.size, 3, none⟩ = some (.int .i64 y.f3.f0) := (hb2.cell (p := ⟨wr.heap.size, 3, none⟩) (by simp)).trans (by simp)
      have b2_4 : w2.cell? ⟨wr.heap.size, 4, none⟩ = some (.int .i64 y.f3.f1) := (hb2.cell (p := ⟨wr.heap.size, 4, none⟩) (by simp)).trans (by simp)
      have b2_5 : w2.cell? ⟨wr.heap.size, 5, none⟩ = some (.float .f64 y.f3.f2) := (hb2.cell (p := ⟨wr.heap.size, 5, none⟩) (by simp)).trans (by simp)
      have b2_6 : w2.cell? ⟨wr.heap.size, 6, none⟩ = some (.string y.f3.f3) := (hb2.cell (p := ⟨wr.heap.size, 6, none⟩) (by simp)).trans (by simp)
      clear hb2 hx0 hx1 hx2 hx3 hx4 hx5 hx6 t0_0 t0_1 t0_2 t0_3 t0_4
      go_wp2_with fail
      refine (name_any y.f0 _ (HG.out.below HBW2.out) HWY.out.1).mono ?_
      rintro e w3 ⟨rfl, hb3⟩
      have hz3 : wr.heap.size < w3.heap.size := by have := hb3.size; omega
      have HB3 : Aside0 (Below (w.heap.size + 1) (w.alloc (.cells #[.string a0_0, .slice (some ad) l0_1.length c0_1, .slice A0_2 l0_2.length c0_2, .slice A0_3 l0_3.length c0_3, .slice A0_4 l0_4.length c0_4] 65)) w3) := ⟨HB2.out.trans (hb3.mono (by omega))⟩
      have HBW3 : Aside0 (Below w.heap.size w w3) := ⟨((Below.refl _ w).alloc (Nat.le_refl _) _).trans (HB3.out.mono (by omega))⟩
      have t3_0 : w3.cell? ⟨w.heap.size, 0, none⟩ = some (.string a0_0) := (HB3.out.cell (p := ⟨w.heap.size, 0, none⟩) (by simp)).trans (by simp)
      have t3_1 : w3.cell? ⟨w.heap.size, 1, none⟩ = some (.slice (some ad) l0_1.length c0_1) := (HB3.out.cell (p := ⟨w.heap.size, 1, none⟩) (by simp)).trans (by simp)
      have t3_2 : w3.cell? ⟨w.heap.size, 2, none⟩ = some (.slice A0_2 l0_2.length c0_2) := (HB3.out.cell (p := ⟨w.heap.size, 2, none⟩) (by simp)).trans (by simp)
      have t3_3 : w3.cell? ⟨w.heap.size, 3, none⟩ = some (.slice A0_3 l0_3.length c0_3) := (HB3.out.cell (p := ⟨w.heap.size, 3, none⟩) (by simp)).trans (by simp)
      have t3_4 : w3.cell? ⟨w.heap.size, 4, none⟩ = some (.slice A0_4 l0_4.length c0_4) := (HB3.out.cell (p := ⟨w.heap.size, 4, none⟩) (by simp)).trans (by simp)
      have b3_0 : w3.cell? ⟨wr.heap.size, 0, none⟩ = some (.string y.f0) := (hb3.cell (p := ⟨wr.heap.size, 0, none⟩) (by omega)).trans b2_0
      have b3_1 : w3.cell? ⟨wr.heap.size, 1, none⟩ = some (.int .i64 y.f1) := (hb3.cell (p := ⟨wr.heap.size, 1, none⟩) (by omega)).trans b2_1
      have b3_2 : w3.cell? ⟨wr.heap.size, 2, none⟩ = some (.bool y.f2) := (hb3.cell (p := ⟨wr.heap.size, 2, none⟩) (by omega)).trans b2_2
      have b3_3 : w3.cell? ⟨wr.heap.size, 3, none⟩ = some (.int .i64 y.f3.f0) := (hb3.cell (p := ⟨wr.heap.size, 3, none⟩) (by omega)).trans b2_3
      have b3_4 : w3.cell? ⟨wr.heap.size, 4, none⟩ = some (.int .i64 y.f3.f1) := (hb3.cell (p := ⟨wr.heap.size, 4, none⟩) (by omega)).trans b2_4
      have b3_5 : w3.cell? ⟨wr.heap.size, 5, none⟩ = some (.float .f64 y.f3.f2) := (hb3.cell (p := ⟨wr.heap.size, 5, none⟩) (by omega)).trans b2_5
      have b3_6 : w3.cell? ⟨wr.heap.size, 6, none⟩ = some (.string y.f3.f3) := (hb3.cell (p := ⟨wr.heap.size, 6, none⟩) (by omega)).trans b2_6
      clear b2_0 b2_1 b2_2 b2_3 b2_4 b2_5 b2_6 t2_0 t2_1 t2_2 t2_3 t2_4
      clear hb3
      cases hn : nameOk y.f0
      · go_wp2
        go_ret
        refine ⟨?_, HBW3.out⟩
        rw [← HE.out, HD.out, colErrs, if_pos hn]; rfl
      have HN := Aside0.mk hn
      clear hn
      cases tw
      case true =>
        go_wp2
        go_ret
        refine ⟨?_, HBW3.out⟩
        rw [← HE.out, HD.out, colErrs, if_neg (by rw [HN.out]; decide), if_pos HTW.out]; rfl
      have e2 : colErrs (l0_1.take i) (l0_1.drop i) = (if colBad y = true then (32 : Int) else colErrs (l0_1.take (i + 1)) (l0_1.drop (i + 1))) := by
        rw [HD.out, HT.out]
        show (if nameOk y.f0 = false then (30 : Int) else if (l0_1.take i).any (fun x => x.f0.toList == y.f0.toList) = true then 31 else if colBad y = true then 32 else colErrs (l0_1.take i ++ [y]) (l0_1.drop (i + 1))) = _
        rw [if_neg (by rw [HN.out]; decide), if_neg (by rw [HTW.out]; decide)]
      have HE2 : Aside0 ((if colBad y = true then (32 : Int) else colErrs (l0_1.take (i + 1)) (l0_1.drop (i + 1))) = R) := ⟨e2.symm.trans HE.out⟩
      clear e2
      clear HE HTW
      by_cases q1 : y.f1 < 1
      · have hbad : Aside0 (colBad y = true) := ⟨by simp [colBad, q1]⟩
        go_wp2
        go_ret
        refine ⟨?_, HBW3.out⟩
        rw [← HE2.out, if_pos hbad.out]; rfl
      by_cases q2 : 5 < y.f1
      · have hbad : Aside0 (colBad y = true) := ⟨by simp [colBad, q2]⟩
        go_wp2
        go_ret
        refine ⟨?_, HBW3.out⟩
        rw [← HE2.out, if_pos hbad.out]; rfl
      go_wp2_with fail
      refine (vcheck_any y.f3.f0 y.f3.f1 y.f3.f2 y.f3.f3 _ (HG.out.below HBW3.out) HWY.out.2).mono ?_
      rintro e w4 ⟨rfl, hb4⟩
      have hz4 : wr.heap.size < w4.heap.size := by have := hb4.size; omega
      have HB4 : Aside0 (Below (w.heap.size + 1) (w.alloc (.cells #[.string a0_0, .slice (some ad) l0_1.length c0_1, .slice A0_2 l0_2.length c0_2, .slice A0_3 l0_3.length c0_3, .slice A0_4 l0_4.length c0_4] 65)) w4) := ⟨HB3.out.trans (hb4.mono (by omega))⟩
      have HBW4 : Aside0 (Below w.heap.size w w4) := ⟨((Below.refl _ w).alloc (Nat.le_refl _) _).trans (HB4.out.mono (by omega))⟩
      have t4_0 : w4.cell? ⟨w.heap.size, 0, none⟩ = some (.string a0_0) := (HB4.out.cell (p := ⟨w.heap.size, 0, none⟩) (by simp)).trans (by simp)
      have t4_1 : w4.cell? ⟨w.heap.size, 1, none⟩ = some (.slice (some ad) l0_1.length c0_1) := (HB4.out.cell (p := ⟨w.heap.size, 1, none⟩) (by simp)).trans (by simp)
      have t4_2 : w4.cell? ⟨w.heap.size, 2, none⟩ = some (.slice A0_2 l0_2.length c0_2) := (HB4.out.cell (p := ⟨w.heap.size, 2, none⟩) (by simp)).trans (by simp)
      have t4_3 : w4.cell? ⟨w.heap.size, 3, none⟩ = some (.slice A0_3 l0_3.length c0_3) := (HB4.out.cell (p := ⟨w.heap.size, 3, none⟩) (by simp)).trans (by simp)
      have t4_4 : w4.cell? ⟨w.heap.size, 4, none⟩ = some (.slice A0_4 l0_4.length c0_4) := (HB4.out.cell (p := ⟨w.heap.size, 4, none⟩) (by simp)).trans (by simp)
      have b4_0 : w4.cell? ⟨wr.heap.size, 0, none⟩ = some (.string y.f0) := (hb4.cell (p := ⟨wr.heap.size, 0, none⟩) (by omega)).trans b3_0
      have b4_1 : w4.cell? ⟨wr.heap.size, 1, none⟩ = some (.int .i64 y.f1) := (hb4.cell (p := ⟨wr.heap.size, 1, none⟩) (by omega)).trans b3_1
      have b4_2 : w4.cell? ⟨wr.heap.size, 2, none⟩ = some (.bool y.f2) := (hb4.cell (p := ⟨wr.heap.size, 2, none⟩) (by omega)).trans b3_2
      have b4_3 : w4.cell? ⟨wr.heap.size, 3, none⟩ = some (.int .i64 y.f3.f0) := (hb4.cell (p := ⟨wr.heap.size, 3, none⟩) (by omega)).trans b3_3
      have b4_4 : w4.cell? ⟨wr.heap.size, 4, none⟩ = some (.int .i64 y.f3.f1) := (hb4.cell (p := ⟨wr.heap.size, 4, none⟩) (by omega)).trans b3_4
      have b4_5 : w4.cell? ⟨wr.heap.size, 5, none⟩ = some (.float .f64 y.f3.f2) := (hb4.cell (p := ⟨wr.heap.size, 5, none⟩) (by omega)).trans b3_5
      have b4_6 : w4.cell? ⟨wr.heap.size, 6, none⟩ = some (.string y.f3.f3) := (hb4.cell (p := ⟨wr.heap.size, 6, none⟩) (by omega)).trans b3_6
      clear b3_0 b3_1 b3_2 b3_3 b3_4 b3_5 b3_6 t3_0 t3_1 t3_2 t3_3 t3_4
      clear hb4
      obtain ⟨ck, hck⟩ : ∃ ck, chk y.f3.f0 y.f3.f1 y.f3.f2 y.f3.f3 = ck := ⟨_, rfl⟩
      rw [hck]
      have HCK := Aside0.mk hck
      clear hck
      by_cases q3 : ck = 0
      case neg =>
        have hbad : Aside0 (colBad y = true) := ⟨by simp [colBad, HCK.out, q3]⟩
        have q3a : (ck != 0) = true := by simpa using q3
        have q3b : (ck == 0) = false := by simpa using q3
        clear q3
        go_wp2
        go_ret
        refine ⟨?_, HBW4.out⟩
        rw [← HE2.out, if_pos hbad.out]; rfl
      subst q3
      by_cases q4 : y.f3.f0 = 0
      · have hgood : Aside0 (colBad y = false) := ⟨by unfold colBad; rw [HCK.out, decide_eq_false (p := y.f1 < 1) (by omega), decide_eq_false (p := 5 < y.f1) (by omega)]; simp [q4]⟩
        have q4a : (y.f3.f0 != 0) = false := by simpa using q4
        have q4b : (y.f3.f0 == 0) = true := by simpa using q4
        clear q4
        go_wp2
        go_roundg (l0_1.length - (i + 1))
        case measure => have := HM.out; omega
        case rel => exact ⟨i + 1, by go_num, ⟨by omega⟩, ⟨Nat.le_refl _⟩, ⟨by rw [← HE2.out, if_neg (by rw [hgood.out]; decide)]⟩, ⟨HB4.out⟩⟩
      have q4a : (y.f3.f0 != 0) = true := by simpa using q4
      have q4b : (y.f3.f0 == 0) = false := by simpa using q4
      by_cases q5 : y.f3.f0 = y.f1
      · have hgood : Aside0 (colBad y = false) := ⟨by unfold colBad; rw [HCK.out, decide_eq_false (p := y.f1 < 1) (by omega), decide_eq_false (p := 5 < y.f1) (by omega)]; simp [q5]⟩
        have q5a : (y.f3.f0 != y.f1) = false := by simpa using q5
        have q5b : (y.f3.f0 == y.f1) = true := by simpa using q5
        clear q4 q5
        go_wp2
        go_roundg (l0_1.length - (i + 1))
        case measure => have := HM.out; omega
        case rel => exact ⟨i + 1, by go_num, ⟨by omega⟩, ⟨Nat.le_refl _⟩, ⟨by rw [← HE2.out, if_neg (by rw [hgood.out]; decide)]⟩, ⟨HB4.out⟩⟩
      · have hbad : Aside0 (colBad y = true) := ⟨by simp [colBad, q4, q5]⟩
        have q5a : (y.f3.f0 != y.f1) = true := by simpa using q5
        have q5b : (y.f3.f0 == y.f1) = false := by simpa using q5
        clear q4 q5
        go_wp2
        go_ret
        refine ⟨?_, HBW4.out⟩
        rw [← HE2.out, if_pos hbad.out]; rfl
    · obtain rfl : i = l0_1.length := by omega
      have hltz : ¬ (l0_1.length : Int) < (l0_1.length : Int) := by omega
      go_wp2
      go_ret
      refine ⟨?_, HBW.out⟩
      rw [← HE.out, List.drop_of_length_le (Nat.le_refl _)]; rfl
theorem rd115_get {xs : List S115} {k : Nat} (hk : k < xs.length) : xs[k]? = some (rd_T115 xs (k : Int)) := by
  unfold rd_T115; simp [List.getD, List.getElem?_eq_getElem hk]
theorem rd139_get {xs : List S139} {k : Nat} (hk : k < xs.length) : xs[k]? = some (rd_T139 xs (k : Int)) := by
  unfold rd_T139; simp [List.getD, List.getElem?_eq_getElem hk]
theorem rdI_get {xs : List Int} {k : Nat} (hk : k < xs.length) : xs[k]? = some (rd xs (k : Int)) := by
  unfold rd; simp [List.getD, List.getElem?_eq_getElem hk]
set_option maxHeartbeats 2000000 in
set_option maxRecDepth 100000 in
theorem idxf_idx (p : S115 → Bool) (g : Nat) (lb : Array Value) (eg : ∀ args w, (callFunc g args).run Tryd.prog w = .ok (.enter g args) w) (A : Option Addr) (xs : List S115) (c : Nat) (w : World) (hC : Kd.C k115 w A xs.length xs)
    (hp : ∀ (W : World) (x : S115) (v : Value), Below w.heap.size w W → Calls Tryd.prog g (#[.agg #[.string x.f0, v, .bool x.f2]] ++ lb) W fun e w' => e = .returned (.bool (p x)) ∧ Below w.heap.size w w') :
    Calls Tryd.prog 168 #[.slice A xs.length c, .func (.func g) #[] lb] w fun e w' => e = .returned (.int .i64 (idxF p xs)) ∧ Below w.heap.size w w' := by
  have HC := Aside0.mk hC
  have hmax : xs.length ≤ 9223372036854775807 := hC.2.1
  clear hC
  go_enter Tryd.func168, Tryd.ntmps168
  go_wp2
  go_loopg [5, 8] xs.length (fun gg _ s8 wr => ∃ kk : Nat, s8 = .int .i64 kk ∧ Aside0 (kk ≤ xs.length) ∧ Aside0 (xs.length - kk ≤ gg) ∧ Aside0 (Below w.heap.size w wr) ∧ Aside0 (∀ x ∈ xs.take kk, p x = false))
  case atStart => exact ⟨0, rfl, ⟨Nat.zero_le _⟩, ⟨by omega⟩, ⟨Below.refl _ w⟩, ⟨fun x hx => by simp at hx⟩⟩
  case round =>
    obtain ⟨kk, rfl, HK, HM, HB, HN⟩ := hrel
    have hkk := HK.out
    by_cases hlt : kk < xs.length
    · have hltz : (kk : Int) < (xs.length : Int) := by omega
      obtain ⟨ad, A1, c1, e, hx0, hx1, hx2, _, _⟩ := at_T115 HC.out (kk : Int) (by omega) hltz
      subst e
      simp only [Int.toNat_natCast] at hx0 hx1 hx2
      replace hx0 := (HB.out.cell (World.block_lt_of_cell? w _ hx0)).trans hx0
      replace hx1 := (HB.out.cell (World.block_lt_of_cell? w _ hx1)).trans hx1
      replace hx2 := (HB.out.cell (World.block_lt_of_cell? w _ hx2)).trans hx2
      have hy := rd115_get hlt
      generalize rd_T115 xs (kk : Int) = y at hx0 hx1 hx2 hy
      have HY := Aside0.mk hy
      have hcall := hp wr y (.slice A1 y.f1.length c1) HB.out
      clear hy hp
      cases hq : p y with
      | true =>
        rw [hq] at hcall
        go_wp2_with (go_at_fn g; refine hcall.mono ?_; rintro e w' ⟨rfl, hb'⟩)
        go_ret
        exact ⟨by rw [any_take HY.out HN.out hq]; rfl, hb'⟩
      | false =>
        rw [hq] at hcall
        go_wp2_with (go_at_fn g; refine hcall.mono ?_; rintro e w' ⟨rfl, hb'⟩)
        go_roundg (xs.length - (kk + 1))
        case measure => have := HM.out; omega
        case rel => exact ⟨kk + 1, by go_num, ⟨by omega⟩, ⟨Nat.le_refl _⟩, ⟨hb'⟩, ⟨take_step HY.out HN.out hq⟩⟩
    · obtain rfl : kk = xs.length := by omega
      have hltz : ¬ (xs.length : Int) < (xs.length : Int) := by omega
      go_wp2
      go_ret
      exact ⟨by rw [any_none HN.out]; rfl, HB.out⟩
theorem containsf_idx (p : S115 → Bool) (g : Nat) (lb : Array Value) (eg : ∀ args w, (callFunc g args).run Tryd.prog w = .ok (.enter g args) w) (A : Option Addr) (xs : List S115) (c : Nat) (w : World) (hC : Kd.C k115 w A xs.length xs)
    (hp : ∀ (W : World) (x : S115) (v : Value), Below w.heap.size w W → Calls Tryd.prog g (#[.agg #[.string x.f0, v, .bool x.f2]] ++ lb) W fun e w' => e = .returned (.bool (p x)) ∧ Below w.heap.size w w') :
    Calls Tryd.prog 129 #[.slice A xs.length c, .func (.func g) #[] lb] w fun e w' => e = .returned (.bool (xs.any p)) ∧ Below w.heap.size w w' := by
  have h := idxf_idx p g lb eg A xs c w hC hp
  have hn := idxF_nonneg p xs
  generalize idxF p xs = r at h hn
  have HN := Aside0.mk hn
  clear hn hp hC
  go_enter Tryd.func129, Tryd.ntmps129
  go_wp2_with fail
  refine h.mono ?_
  rintro e w' ⟨rfl, hb⟩
  go_wp2
  go_ret
  refine ⟨?_, hb⟩
  rw [← HN.out]; rfl
/-- Check's second closure: has this index the name of that one? -/
theorem closure_idx (c : S115) (B : Nat) (w : World) (hB : B < w.heap.size) (hc : w.cell? ⟨B, 0, none⟩ = some (.string c.f0)) :
    ∀ (W : World) (x : S115) (v : Value), Below w.heap.size w W → Calls Tryd.prog 130 (#[.agg #[.string x.f0, v, .bool x.f2]] ++ #[.pointer (some ⟨B, 0, none⟩)]) W fun e w' => e = .returned (.bool (x.f0.toList == c.f0.toList)) ∧ Below w.heap.size w w' := by
  intro W x v hb
  have hcW : W.cell? ⟨B, 0, none⟩ = some (.string c.f0) := (hb.cell (p := ⟨B, 0, none⟩) hB).trans hc
  have hBW : B < W.heap.size := Nat.lt_of_lt_of_le hB hb.size
  have hne : B ≠ W.heap.size := by omega
  show Calls Tryd.prog 130 #[.agg #[.string x.f0, v, .bool x.f2], .pointer (some ⟨B, 0, none⟩)] W _
  go_enter Tryd.func130, Tryd.ntmps130
  go_wp2
  go_ret
  exact ⟨rfl, hb.alloc hb.size _⟩
set_option maxHeartbeats 2000000 in
set_option maxRecDepth 100000 in
theorem idxf_int (p : Int → Bool) (g : Nat) (lb : Array Value) (eg : ∀ args w, (callFunc g args).run Tryd.prog w = .ok (.enter g args) w) (A : Option Addr) (xs : List Int) (c : Nat) (w : World) (hC : Kd.C (Kd.int .i64) w A xs.length xs)
    (hp : ∀ (W : World) (x : Int), x ∈ xs → Below w.heap.size w W → Calls Tryd.prog g (#[.int .i64 x] ++ lb) W fun e w' => e = .returned (.bool (p x)) ∧ Below w.heap.size w w') :
    Calls Tryd.prog 167 #[.slice A xs.length c, .func (.func g) #[] lb] w fun e w' => e = .returned (.int .i64 (idxF p xs)) ∧ Below w.heap.size w w' := by
  have HC := Aside0.mk hC
  have hmax : xs.length ≤ 9223372036854775807 := hC.2.1
  clear hC
  go_enter Tryd.func167, Tryd.ntmps167
  go_wp2
  go_loopg [5, 8] xs.length (fun gg _ s8 wr => ∃ kk : Nat, s8 = .int .i64 kk ∧ Aside0 (kk ≤ xs.length) ∧ Aside0 (xs.length - kk ≤ gg) ∧ Aside0 (Below w.heap.size w wr) ∧ Aside0 (∀ x ∈ xs.take kk, p x = false))
  case atStart => exact ⟨0, rfl, ⟨Nat.zero_le _⟩, ⟨by omega⟩, ⟨Below.refl _ w⟩, ⟨fun x hx => by simp at hx⟩⟩
  case round =>
    obtain ⟨kk, rfl, HK, HM, HB, HN⟩ := hrel
    have hkk := HK.out
    by_cases hlt : kk < xs.length
    · have hltz : (kk : Int) < (xs.length : Int) := by omega
      obtain ⟨ad, e, hx0⟩ := Kd.at_int HC.out (kk : Int) (by omega) hltz
      subst e
      simp only [Int.toNat_natCast] at hx0
      replace hx0 := (HB.out.cell (World.block_lt_of_cell? w _ hx0)).trans hx0
      have hy := rdI_get hlt
      generalize rd xs (kk : Int) = y at hx0 hy
      have HY := Aside0.mk hy
      have hcall := hp wr y (List.mem_of_getElem? hy) HB.out
      clear hy hp
      cases hq : p y with
      | true =>
        rw [hq] at hcall
        go_wp2_with (go_at_fn g; refine hcall.mono ?_; rintro e w' ⟨rfl, hb'⟩)
        go_ret
        exact ⟨by rw [any_take HY.out HN.out hq]; rfl, hb'⟩
      | false =>
        rw [hq] at hcall
        go_wp2_with (go_at_fn g; refine hcall.mono ?_; rintro e w' ⟨rfl, hb'⟩)
        go_roundg (xs.length - (kk + 1))
        case measure => have := HM.out; omega
        case rel => exact ⟨kk + 1, by go_num, ⟨by omega⟩, ⟨Nat.le_refl _⟩, ⟨hb'⟩, ⟨take_step HY.out HN.out hq⟩⟩
    · obtain rfl : kk = xs.length := by omega
      have hltz : ¬ (xs.length : Int) < (xs.length : Int) := by omega
      go_wp2
      go_ret
      exact ⟨by rw [any_none HN.out]; rfl, HB.out⟩
theorem containsf_int (p : Int → Bool) (g : Nat) (lb : Array Value) (eg : ∀ args w, (callFunc g args).run Tryd.prog w = .ok (.enter g args) w) (A : Option Addr) (xs : List Int) (c : Nat) (w : World) (hC : Kd.C (Kd.int .i64) w A xs.length xs)
    (hp : ∀ (W : World) (x : Int), x ∈ xs → Below w.heap.size w W → Calls Tryd.prog g (#[.int .i64 x] ++ lb) W fun e w' => e = .returned (.bool (p x)) ∧ Below w.heap.size w w') :
    Calls Tryd.prog 127 #[.slice A xs.length c, .func (.func g) #[] lb] w fun e w' => e = .returned (.bool (xs.any p)) ∧ Below w.heap.size w w' := by
  have h := idxf_int p g lb eg A xs c w hC hp
  have hn := idxF_nonneg p xs
  generalize idxF p xs = r at h hn
  have HN := Aside0.mk hn
  clear hn hp hC
  go_enter Tryd.func127, Tryd.ntmps127
  go_wp2_with fail
  refine h.mono ?_
  rintro e w' ⟨rfl, hb⟩
  go_wp2
  go_ret
  refine ⟨?_, hb⟩
  rw [← HN.out]; rfl
/-- Check's first closure: may this column be null? -/
theorem closure_null (A : Option Addr) (cs : List S105) (c : Nat) (B : Nat) (w : World) (hB : B < w.heap.size) (hc : w.cell? ⟨B, 1, none⟩ = some (.slice A cs.length c)) (hC : Kd.C k105 w A cs.length cs) (x : Int) (h0 : 0 ≤ x) (h1 : x < cs.length) :
    ∀ (W : World), Below w.heap.size w W → Calls Tryd.prog 128 (#[.int .i64 x] ++ #[.pointer (some ⟨B, 0, none⟩)]) W fun e w' => e = .returned (.bool (rd_T105 cs x).f2) ∧ Below w.heap.size w w' := by
  intro W hb
  have hcW : W.cell? ⟨B, 1, none⟩ = some (.slice A cs.length c) := (hb.cell (p := ⟨B, 1, none⟩) hB).trans hc
  obtain ⟨ad, e, _, _, hx2, _⟩ := at_T105 hC x h0 h1
  subst e
  replace hx2 := (hb.cell (World.block_lt_of_cell? w _ hx2)).trans hx2
  show Calls Tryd.prog 128 #[.int .i64 x, .pointer (some ⟨B, 0, none⟩)] W _
  clear hc hC
  generalize (rd_T105 cs x).f2 = b at hx2 ⊢
  go_enter Tryd.func128, Tryd.ntmps128
  go_wp2
  go_ret
  exact ⟨rfl, hb⟩
theorem colsOf_any (a0_0 : ByteArray) (A0_1 : Option Addr) (c0_1 : Nat) (l0_1 : List (S105)) (A0_2 : Option Addr) (c0_2 : Nat) (l0_2 : List Int) (A0_3 : Option Addr) (c0_3 : Nat) (l0_3 : List (S115)) (A0_4 : Option Addr) (c0_4 : Nat) (l0_4 : List (S139)) (A1 : Option Addr) (c1 : Nat) (l1 : List Int) (w : World) (hr0_1 : Kd.C k105 w A0_1 l0_1.length l0_1) (hc0_1 : l0_1.length ≤ c0_1) (hr0_2 : Kd.C (Kd.int .i64) w A0_2 l0_2.length l0_2) (hc0_2 : l0_2.length ≤ c0_2) (hr0_3 : Kd.C k115 w A0_3 l0_3.length l0_3) (hc0_3 : l0_3.length ≤ c0_3) (hr0_4 : Kd.C k139 w A0_4 l0_4.length l0_4) (hc0_4 : l0_4.length ≤ c0_4) (hr1 : Kd.C (Kd.int .i64) w A1 l1.length l1) (hc1 : l1.length ≤ c1) (hl : l1.length < 9223372036854775807) :
    Calls Tryd.prog 126 #[.agg #[.string a0_0, .slice A0_1 l0_1.length c0_1, .slice A0_2 l0_2.length c0_2, .slice A0_3 l0_3.length c0_3, .slice A0_4 l0_4.length c0_4], .slice A1 l1.length c1] w fun e w' => e = .returned (.bool (colsOk l0_1.length l1)) ∧ Below w.heap.size w w' := by
  obtain ⟨k, h⟩ := (columnsOf_ev a0_0 l0_1 l0_2 l0_3 l0_4 l1 hl).ex
  exact schema_columnsOf.calls k a0_0 A0_1 c0_1 l0_1 A0_2 c0_2 l0_2 A0_3 c0_3 l0_3 A0_4 c0_4 l0_4 A1 c1 l1 _ w hr0_1 hc0_1 hr0_2 hc0_2 hr0_3 hc0_3 hr0_4 hc0_4 hr1 hc1 h
/-- Why indexes may not be, those ahead of them being so many. -/
def idxErrs (n : Nat) (pre : List S115) : List S115 → Int
  | [] => 0
  | x :: l => if nameOk x.f0 = false then 30 else if pre.any (fun y => y.f0.toList == x.f0.toList) = true then 31 else if colsOk n x.f1 = false then 33 else idxErrs n (pre ++ [x]) l
def refErrs (n : Nat) : List S139 → Int
  | [] => 0
  | x :: l => if nameOk x.f1 = false then 30 else if colsOk n x.f0 = false then 33 else refErrs n l
/-- Why a table may not be. -/
def checkT (name : ByteArray) (cols : List S105) (key : List Int) (idx : List S115) (refs : List S139) : Int :=
  if nameOk name = false then 30
  else if cols.length < 1 ∨ 64 < cols.length ∨ 16 < idx.length ∨ 16 < refs.length then 2
  else if colErrs [] cols ≠ 0 then colErrs [] cols
  else if colsOk cols.length key = false then 33
  else if key.any (fun k => (rd_T105 cols k).f2) = true then 33
  else if idxErrs cols.length [] idx ≠ 0 then idxErrs cols.length [] idx
  else refErrs cols.length refs
def wfX (x : S115) : Prop := x.f0.size ≤ 140737488351232 ∧ x.f1.length < 9223372036854775807
def wfR (x : S139) : Prop := x.f1.size ≤ 140737488351232 ∧ x.f0.length < 9223372036854775807
structure WfT (name : ByteArray) (cols : List S105) (key : List Int) (idx : List S115) (refs : List S139) : Prop where
  name : name.size ≤ 140737488351232
  cols : ∀ c ∈ cols, wfC c
  key : key.length < 9223372036854775807
  idx : ∀ x ∈ idx, wfX x
  refs : ∀ x ∈ refs, wfR x
theorem colsOk_mem {n : Nat} {l : List Int} (h : colsOk n l = true) {x : Int} (hx : x ∈ l) : 0 ≤ x ∧ x < n := by
  unfold colsOk at h
  simp only [Bool.and_eq_true, List.all_eq_true, decide_eq_true_eq] at h
  exact h.1.2 x hx
set_option maxHeartbeats 16000000 in
set_option maxRecDepth 100000 in
theorem schemaCheck_any (a0_0 : ByteArray) (A0_1 : Option Addr) (c0_1 : Nat) (l0_1 : List (S105)) (A0_2 : Option Addr) (c0_2 : Nat) (l0_2 : List Int) (A0_3 : Option Addr) (c0_3 : Nat) (l0_3 : List (S115)) (A0_4 : Option Addr) (c0_4 : Nat) (l0_4 : List (S139)) (w : World) (hr0_1 : Kd.C k105 w A0_1 l0_1.length l0_1) (hc0_1 : l0_1.length ≤ c0_1) (hr0_2 : Kd.C (Kd.int .i64) w A0_2 l0_2.length l0_2) (hc0_2 : l0_2.length ≤ c0_2) (hr0_3 : Kd.C k115 w A0_3 l0_3.length l0_3) (hc0_3 : l0_3.length ≤ c0_3) (hr0_4 : Kd.C k139 w A0_4 l0_4.length l0_4) (hc0_4 : l0_4.length ≤ c0_4) (hG : Glob w) (hw : WfT a0_0 l0_1 l0_2 l0_3 l0_4) :
    Calls Tryd.prog 91 #[.agg #[.string a0_0, .slice A0_1 l0_1.length c0_1, .slice A0_2 l0_2.length c0_2, .slice A0_3 l0_3.length c0_3, .slice A0_4 l0_4.length c0_4]] w fun e w' => e = .returned (.int .i64 (checkT a0_0 l0_1 l0_2 l0_3 l0_4)) ∧ Below w.heap.size w w' := by
  have HC1 := Aside0.mk hr0_1
  have HC2 := Aside0.mk hr0_2
  have HC3 := Aside0.mk hr0_3
  have HC4 := Aside0.mk hr0_4
  have HCC1 := Aside0.mk hc0_1
  have HCC2 := Aside0.mk hc0_2
  have HCC3 := Aside0.mk hc0_3
  have HCC4 := Aside0.mk hc0_4
  have hmax1 : l0_1.length ≤ 9223372036854775807 := hr0_1.2.1
  have hmax3 : l0_3.length ≤ 9223372036854775807 := hr0_3.2.1
  have hmax4 : l0_4.length ≤ 9223372036854775807 := hr0_4.2.1
  have HG := Aside0.mk hG
  have HW := Aside0.mk hw
  clear hr0_1 hc0_1 hr0_2 hc0_2 hr0_3 hc0_3 hr0_4 hc0_4 hG hw
  obtain ⟨R, hR⟩ : ∃ R, checkT a0_0 l0_1 l0_2 l0_3 l0_4 = R := ⟨_, rfl⟩
  rw [hR]
  unfold checkT at hR
  have HR := Aside0.mk hR
  clear hR
  have HB0 : Aside0 (Below (w.heap.size + 1) (w.alloc (.cells #[.string a0_0, .slice A0_1 l0_1.length c0_1, .slice A0_2 l0_2.length c0_2, .slice A0_3 l0_3.length c0_3, .slice A0_4 l0_4.length c0_4] 65)) (w.alloc (.cells #[.string a0_0, .slice A0_1 l0_1.length c0_1, .slice A0_2 l0_2.length c0_2, .slice A0_3 l0_3.length c0_3, .slice A0_4 l0_4.length c0_4] 65))) := ⟨Below.refl _ _⟩
  go_enter Tryd.func91, Tryd.ntmps91
  go_wp2_with fail
  refine (name_any a0_0 _ (HG.out.below ((Below.refl _ w).alloc (Nat.le_refl _) _)) HW.out.name).mono ?_
  rintro e w1 ⟨rfl, hb1⟩
  have HB1 : Aside0 (Below (w.heap.size + 1) (w.alloc (.cells #[.string a0_0, .slice A0_1 l0_1.length c0_1, .slice A0_2 l0_2.length c0_2, .slice A0_3 l0_3.length c0_3, .slice A0_4 l0_4.length c0_4] 65)) w1) := ⟨HB0.out.trans (hb1.mono (by simp))⟩
  have HBW1 : Aside0 (Below w.heap.size w w1) := ⟨((Below.refl _ w).alloc (Nat.le_refl _) _).trans (HB1.out.mono (by omega))⟩
  clear hb1
  have t1_0 : w1.cell? ⟨w.heap.size, 0, none⟩ = some (.string a0_0) := (HB1.out.cell (p := ⟨w.heap.size, 0, none⟩) (by simp)).trans (by simp)
  have t1_1 : w1.cell? ⟨w.heap.size, 1, none⟩ = some (.slice A0_1 l0_1.length c0_1) := (HB1.out.cell (p := ⟨w.heap.size, 1, none⟩) (by simp)).trans (by simp)
  have t1_2 : w1.cell? ⟨w.heap.size, 2, none⟩ = some (.slice A0_2 l0_2.length c0_2) := (HB1.out.cell (p := ⟨w.heap.size, 2, none⟩) (by simp)).trans (by simp)
  have t1_3 : w1.cell? ⟨w.heap.size, 3, none⟩ = some (.slice A0_3 l0_3.length c0_3) := (HB1.out.cell (p := ⟨w.heap.size, 3, none⟩) (by simp)).trans (by simp)
  have t1_4 : w1.cell? ⟨w.heap.size, 4, none⟩ = some (.slice A0_4 l0_4.length c0_4) := (HB1.out.cell (p := ⟨w.heap.size, 4, none⟩) (by simp)).trans (by simp)
  cases hn : nameOk a0_0
  · rw [if_pos hn] at HR
    have HR' := HR.out
    subst HR'
    go_wp2
    go_ret
    exact ⟨rfl, HBW1.out⟩
  rw [if_neg (by rw [hn]; decide)] at HR
  clear hn
  by_cases hbad : l0_1.length < 1 ∨ 64 < l0_1.length ∨ 16 < l0_3.length ∨ 16 < l0_4.length
  · rw [if_pos hbad] at HR
    have HR' := HR.out
    subst HR'
    by_cases q1 : l0_1.length < 1
    · have q1z : (l0_1.length : Int) < 1 := by omega
      clear hbad
      go_wp2
      go_ret
      exact ⟨rfl, HBW1.out⟩
    have q1z : ¬ (l0_1.length : Int) < 1 := by omega
    by_cases q2 : 64 < l0_1.length
    · have q2z : (64 : Int) < (l0_1.length : Int) := by omega
      clear hbad q1
      go_wp2
      go_ret
      exact ⟨rfl, HBW1.out⟩
    have q2z : ¬ (64 : Int) < (l0_1.length : Int) := by omega
    by_cases q3 : 16 < l0_3.length
    · have q3z : (16 : Int) < (l0_3.length : Int) := by omega
      clear hbad q1 q2
      go_wp2
      go_ret
      exact ⟨rfl, HBW1.out⟩
    have q3z : ¬ (16 : Int) < (l0_3.length : Int) := by omega
    have q4 : 16 < l0_4.length := by omega
    have q4z : (16 : Int) < (l0_4.length : Int) := by omega
    clear hbad q1 q2 q3
    go_wp2
    go_ret
    exact ⟨rfl, HBW1.out⟩
  rw [if_neg hbad] at HR
  have q1z : ¬ (l0_1.length : Int) < 1 := by omega
  have q2z : ¬ (64 : Int) < (l0_1.length : Int) := by omega
  have q3z : ¬ (16 : Int) < (l0_3.length : Int) := by omega
  have q4z : ¬ (16 : Int) < (l0_4.length : Int) := by omega
  clear hbad
  go_wp2_with fail
  refine (checkColumns_any a0_0 A0_1 c0_1 l0_1 A0_2 c0_2 l0_2 A0_3 c0_3 l0_3 A0_4 c0_4 l0_4 _ (Kd.C_below HC1.out HBW1.out) HCC1.out (HG.out.below HBW1.out) HW.out.cols).mono ?_
  rintro e w2 ⟨rfl, hb2⟩
  have HB2 : Aside0 (Below (w.heap.size + 1) (w.alloc (.cells #[.string a0_0, .slice A0_1 l0_1.length c0_1, .slice A0_2 l0_2.length c0_2, .slice A0_3 l0_3.length c0_3, .slice A0_4 l0_4.length c0_4] 65)) w2) := ⟨HB1.out.trans (hb2.mono (by have := HB1.out.size; simp at this; omega))⟩
  have HBW2 : Aside0 (Below w.heap.size w w2) := ⟨((Below.refl _ w).alloc (Nat.le_refl _) _).trans (HB2.out.mono (by omega))⟩
  clear hb2
  have t2_0 : w2.cell? ⟨w.heap.size, 0, none⟩ = some (.string a0_0) := (HB2.out.cell (p := ⟨w.heap.size, 0, none⟩) (by simp)).trans (by simp)
  have t2_1 : w2.cell? ⟨w.heap.size, 1, none⟩ = some (.slice A0_1 l0_1.length c0_1) := (HB2.out.cell (p := ⟨w.heap.size, 1, none⟩) (by simp)).trans (by simp)
  have t2_2 : w2.cell? ⟨w.heap.size, 2, none⟩ = some (.slice A0_2 l0_2.length c0_2) := (HB2.out.cell (p := ⟨w.heap.size, 2, none⟩) (by simp)).trans (by simp)
  have t2_3 : w2.cell? ⟨w.heap.size, 3, none⟩ = some (.slice A0_3 l0_3.length c0_3) := (HB2.out.cell (p := ⟨w.heap.size, 3, none⟩) (by simp)).trans (by simp)
  have t2_4 : w2.cell? ⟨w.heap.size, 4, none⟩ = some (.slice A0_4 l0_4.length c0_4) := (HB2.out.cell (p := ⟨w.heap.size, 4, none⟩) (by simp)).trans (by simp)
  clear t1_0 t1_1 t1_2 t1_3 t1_4
  obtain ⟨ce, hce⟩ : ∃ ce, colErrs [] l0_1 = ce := ⟨_, rfl⟩
  rw [hce] at HR ⊢
  clear hce
  by_cases q5 : ce = 0
  case neg =>
    rw [if_pos q5] at HR
    have HR' := HR.out
    subst HR'
    have q5a : (ce != 0) = true := by simpa using q5
    have q5b : (ce == 0) = false := by simpa using q5
    clear q5
    go_wp2
    go_ret
    exact ⟨rfl, HBW2.out⟩
  subst q5
  rw [if_neg (by decide)] at HR
  go_wp2_with fail
  refine (colsOf_any a0_0 A0_1 c0_1 l0_1 A0_2 c0_2 l0_2 A0_3 c0_3 l0_3 A0_4 c0_4 l0_4 A0_2 c0_2 l0_2 _ (Kd.C_below HC1.out HBW2.out) HCC1.out (Kd.C_below HC2.out HBW2.out) HCC2.out (Kd.C_below HC3.out HBW2.out) HCC3.out (Kd.C_below HC4.out HBW2.out) HCC4.out (Kd.C_below HC2.out HBW2.out) HCC2.out HW.out.key).mono ?_
  rintro e w3 ⟨rfl, hb3⟩
  have HB3 : Aside0 (Below (w.heap.size + 1) (w.alloc (.cells #[.string a0_0, .slice A0_1 l0_1.length c0_1, .slice A0_2 l0_2.length c0_2, .slice A0_3 l0_3.length c0_3, .slice A0_4 l0_4.length c0_4] 65)) w3) := ⟨HB2.out.trans (hb3.mono (by have := HB2.out.size; simp at this; omega))⟩
  have HBW3 : Aside0 (Below w.heap.size w w3) := ⟨((Below.refl _ w).alloc (Nat.le_refl _) _).trans (HB3.out.mono (by omega))⟩
  clear hb3
  have t3_0 : w3.cell? ⟨w.heap.size, 0, none⟩ = some (.string a0_0) := (HB3.out.cell (p := ⟨w.heap.size, 0, none⟩) (by simp)).trans (by simp)
  have t3_1 : w3.cell? ⟨w.heap.size, 1, none⟩ = some (.slice A0_1 l0_1.length c0_1) := (HB3.out.cell (p := ⟨w.heap.size, 1, none⟩) (by simp)).trans (by simp)
  have t3_2 : w3.cell? ⟨w.heap.size, 2, none⟩ = some (.slice A0_2 l0_2.length c0_2) := (HB3.out.cell (p := ⟨w.heap.size, 2, none⟩) (by simp)).trans (by simp)
  have t3_3 : w3.cell? ⟨w.heap.size, 3, none⟩ = some (.slice A0_3 l0_3.length c0_3) := (HB3.out.cell (p := ⟨w.heap.size, 3, none⟩) (by simp)).trans (by simp)
  have t3_4 : w3.cell? ⟨w.heap.size, 4, none⟩ = some (.slice A0_4 l0_4.length c0_4) := (HB3.out.cell (p := ⟨w.heap.size, 4, none⟩) (by simp)).trans (by simp)
  clear t2_0 t2_1 t2_2 t2_3 t2_4
  cases hk : colsOk l0_1.length l0_2
  · rw [if_pos hk] at HR
    have HR' := HR.out
    subst HR'
    go_wp2
    go_ret
    exact ⟨rfl, HBW3.out⟩
  rw [if_neg (by rw [hk]; decide)] at HR
  have hcon := containsf_int (fun x => (rd_T105 l0_1 x).f2) 128 #[.pointer (some ⟨w.heap.size, 0, none⟩)] (enters_of Tryd.func128 (by kernel_rfl) rfl) A0_2 l0_2 c0_2 w3 (Kd.C_below HC2.out HBW3.out)
    (fun W x hx hb => closure_null A0_1 l0_1 c0_1 w.heap.size w3 (by have := HB3.out.size; simp at this; omega) t3_1 (Kd.C_below HC1.out HBW3.out) x (colsOk_mem hk hx).1 (colsOk_mem hk hx).2 W hb)
  have HCON := Aside0.mk hcon
  clear hcon hk
  obtain ⟨nu, hnu⟩ : ∃ nu, l0_2.any (fun x => (rd_T105 l0_1 x).f2) = nu := ⟨_, rfl⟩
  rw [hnu] at HCON HR
  clear hnu
  go_wp2_with fail
  refine HCON.out.mono ?_
  rintro e w4 ⟨rfl, hb4⟩
  have HB4 : Aside0 (Below (w.heap.size + 1) (w.alloc (.cells #[.string a0_0, .slice A0_1 l0_1.length c0_1, .slice A0_2 l0_2.length c0_2, .slice A0_3 l0_3.length c0_3, .slice A0_4 l0_4.length c0_4] 65)) w4) := ⟨HB3.out.trans (hb4.mono (by have := HB3.out.size; simp at this; omega))⟩
  have HBW4 : Aside0 (Below w.heap.size w w4) := ⟨((Below.refl _ w).alloc (Nat.le_refl _) _).trans (HB4.out.mono (by omega))⟩
  clear hb4 HCON
  have t4_0 : w4.cell? ⟨w.heap.size, 0, none⟩ = some (.string a0_0) := (HB4.out.cell (p := ⟨w.heap.size, 0, none⟩) (by simp)).trans (by simp)
  have t4_1 : w4.cell? ⟨w.heap.size, 1, none⟩ = some (.slice A0_1 l0_1.length c0_1) := (HB4.out.cell (p := ⟨w.heap.size, 1, none⟩) (by simp)).trans (by simp)
  have t4_2 : w4.cell? ⟨w.heap.size, 2, none⟩ = some (.slice A0_2 l0_2.length c0_2) := (HB4.out.cell (p := ⟨w.heap.size, 2, none⟩) (by simp)).trans (by simp)
  have t4_3 : w4.cell? ⟨w.heap.size, 3, none⟩ = some (.slice A0_3 l0_3.length c0_3) := (HB4.out.cell (p := ⟨w.heap.size, 3, none⟩) (by simp)).trans (by simp)
  have t4_4 : w4.cell? ⟨w.heap.size, 4, none⟩ = some (.slice A0_4 l0_4.length c0_4) := (HB4.out.cell (p := ⟨w.heap.size, 4, none⟩) (by simp)).trans (by simp)
  clear t3_0 t3_1 t3_2 t3_3 t3_4
  cases nu
  case true =>
    rw [if_pos rfl] at HR
    have HR' := HR.out
    subst HR'
    go_wp2
    go_ret
    exact ⟨rfl, HBW4.out⟩
  rw [if_neg (by decide)] at HR
  go_wp2
  go_loopg [56] l0_3.length (fun gg s56 wr => ∃ i : Nat, s56 = .int .i64 i ∧ Aside0 (i ≤ l0_3.length) ∧ Aside0 (l0_3.length - i ≤ gg) ∧ Aside0 ((if idxErrs l0_1.length (l0_3.take i) (l0_3.drop i) ≠ 0 then idxErrs l0_1.length (l0_3.take i) (l0_3.drop i) else refErrs l0_1.length l0_4) = R) ∧ Aside0 (Below (w.heap.size + 1) (w.alloc (.cells #[.string a0_0, .slice A0_1 l0_1.length c0_1, .slice A0_2 l0_2.length c0_2, .slice A0_3 l0_3.length c0_3, .slice A0_4 l0_4.length c0_4] 65)) wr))
  case atStart => exact ⟨0, rfl, ⟨Nat.zero_le _⟩, ⟨by omega⟩, HR, HB4⟩
  case round =>
    obtain ⟨i, rfl, HK, HM, HE, HBr⟩ := hrel
    have hkk := HK.out
    clear HR HB4 HBW4 HB3 HBW3 HB2 HBW2 HB1 HBW1 HB0
    have hz0 : w.heap.size < wr.heap.size := by have := HBr.out.size; simp at this; omega
    have HBWr : Aside0 (Below w.heap.size w wr) := ⟨((Below.refl _ w).alloc (Nat.le_refl _) _).trans (HBr.out.mono (by omega))⟩
    have tr_0 : wr.cell? ⟨w.heap.size, 0, none⟩ = some (.string a0_0) := (HBr.out.cell (p := ⟨w.heap.size, 0, none⟩) (by simp)).trans (by simp)
    have tr_1 : wr.cell? ⟨w.heap.size, 1, none⟩ = some (.slice A0_1 l0_1.length c0_1) := (HBr.out.cell (p := ⟨w.heap.size, 1, none⟩) (by simp)).trans (by simp)
    have tr_2 : wr.cell? ⟨w.heap.size, 2, none⟩ = some (.slice A0_2 l0_2.length c0_2) := (HBr.out.cell (p := ⟨w.heap.size, 2, none⟩) (by simp)).trans (by simp)
    have tr_3 : wr.cell? ⟨w.heap.size, 3, none⟩ = some (.slice A0_3 l0_3.length c0_3) := (HBr.out.cell (p := ⟨w.heap.size, 3, none⟩) (by simp)).trans (by simp)
    have tr_4 : wr.cell? ⟨w.heap.size, 4, none⟩ = some (.slice A0_4 l0_4.length c0_4) := (HBr.out.cell (p := ⟨w.heap.size, 4, none⟩) (by simp)).trans (by simp)
    by_cases hlt : i < l0_3.length
    · have hltz : (i : Int) < (l0_3.length : Int) := by omega
      have hcap : (i : Int) ≤ (c0_3 : Int) := by have := HCC3.out; omega
      obtain ⟨ad, Ax, cx, e, hx0, hx1, hx2, hxc, hxC⟩ := at_T115 HC3.out (i : Int) (by omega) hltz
      subst e
      simp only [Int.toNat_natCast] at hx0 hx1 hx2
      replace hx0 := (HBWr.out.cell (World.block_lt_of_cell? w _ hx0)).trans hx0
      replace hx1 := (HBWr.out.cell (World.block_lt_of_cell? w _ hx1)).trans hx1
      replace hx2 := (HBWr.out.cell (World.block_lt_of_cell? w _ hx2)).trans hx2
      have hy := rd115_get hlt
      generalize rd_T115 l0_3 (i : Int) = y at hx0 hx1 hx2 hxc hxC hy
      have HXc := Aside0.mk hxc
      have HXC := Aside0.mk hxC
      have HD : Aside0 (l0_3.drop i = y :: l0_3.drop (i + 1)) := ⟨by rw [List.drop_eq_getElem_cons hlt]; congr 1; exact (List.getElem?_eq_some_iff.1 hy).2⟩
      have HT : Aside0 (l0_3.take (i + 1) = l0_3.take i ++ [y]) := ⟨by rw [List.take_add_one, hy]; rfl⟩
      have HWY : Aside0 (wfX y) := ⟨HW.out.idx y (List.mem_of_getElem? hy)⟩
      clear hy hxc hxC
      have hl : (l0_3.take i).length = i := by simp; omega
      have hcon := containsf_idx (fun x => x.f0.toList == y.f0.toList) 130 #[.pointer (some ⟨wr.heap.size, 0, none⟩)] (enters_of Tryd.func130 (by kernel_rfl) rfl) (some ad) (l0_3.take i) c0_3 (wr.alloc (.cells #[.string y.f0, .slice Ax y.f1.length cx, .bool y.f2] 115))
        (Kd.C_take (Kd.C_below HC3.out (HBWr.out.alloc HBWr.out.size _)) (by omega)) (closure_idx y wr.heap.size _ (by simp) (by simp))
      rw [hl] at hcon
      have HCON := Aside0.mk hcon
      clear hcon hl
      obtain ⟨tw, htw⟩ : ∃ tw, (l0_3.take i).any (fun x => x.f0.toList == y.f0.toList) = tw := ⟨_, rfl⟩
      rw [htw] at HCON
      have HTW := Aside0.mk htw
      clear htw
      go_wp2_with fail
      refine HCON.out.mono ?_
      rintro e w5 ⟨rfl, hb5⟩
      have HB5 : Aside0 (Below (w.heap.size + 1) (w.alloc (.cells #[.string a0_0, .slice A0_1 l0_1.length c0_1, .slice A0_2 l0_2.length c0_2, .slice (some ad) l0_3.length c0_3, .slice A0_4 l0_4.length c0_4] 65)) w5) := ⟨(HBr.out.alloc (by omega) _).trans (hb5.mono (by simp; omega))⟩
      have HBW5 : Aside0 (Below w.heap.size w w5) := ⟨((Below.refl _ w).alloc (Nat.le_refl _) _).trans (HB5.out.mono (by omega))⟩
      have hz5 : wr.heap.size < w5.heap.size := by have := hb5.size; simp at this; omega
      have t5_0 : w5.cell? ⟨w.heap.size, 0, none⟩ = some (.string a0_0) := (HB5.out.cell (p := ⟨w.heap.size, 0, none⟩) (by simp)).trans (by simp)
      have t5_1 : w5.cell? ⟨w.heap.size, 1, none⟩ = some (.slice A0_1 l0_1.length c0_1) := (HB5.out.cell (p := ⟨w.heap.size, 1, none⟩) (by simp)).trans (by simp)
      have t5_2 : w5.cell? ⟨w.heap.size, 2, none⟩ = some (.slice A0_2 l0_2.length c0_2) := (HB5.out.cell (p := ⟨w.heap.size, 2, none⟩) (by simp)).trans (by simp)
      have t5_3 : w5.cell? ⟨w.heap.size, 3, none⟩ = some (.slice (some ad) l0_3.length c0_3) := (HB5.out.cell (p := ⟨w.heap.size, 3, none⟩) (by simp)).trans (by simp)
      have t5_4 : w5.cell? ⟨w.heap.size, 4, none⟩ = some (.slice A0_4 l0_4.length c0_4) := (HB5.out.cell (p := ⟨w.heap.size, 4, none⟩) (by simp)).trans (by simp)
      have b5_0 : w5.cell? ⟨wr.heap.size, 0, none⟩ = some (.string y.f0) := (hb5.cell (p := ⟨wr.heap.size, 0, none⟩) (by simp)).trans (by simp)
      have b5_1 : w5.cell? ⟨wr.heap.size, 1, none⟩ = some (.slice Ax y.f1.length cx) := (hb5.cell (p := ⟨wr.heap.size, 1, none⟩) (by simp)).trans (by simp)
      clear hb5 hx0 hx1 hx2 HCON
      clear tr_0 tr_1 tr_2 tr_3 tr_4
      go_wp2_with fail
      refine (name_any y.f0 _ (HG.out.below HBW5.out) HWY.out.1).mono ?_
      rintro e w6 ⟨rfl, hb6⟩
      have HB6 : Aside0 (Below (w.heap.size + 1) (w.alloc (.cells #[.string a0_0, .slice A0_1 l0_1.length c0_1, .slice A0_2 l0_2.length c0_2, .slice (some ad) l0_3.length c0_3, .slice A0_4 l0_4.length c0_4] 65)) w6) := ⟨HB5.out.trans (hb6.mono (by have := HB5.out.size; simp at this; omega))⟩
      have HBW6 : Aside0 (Below w.heap.size w w6) := ⟨((Below.refl _ w).alloc (Nat.le_refl _) _).trans (HB6.out.mono (by omega))⟩
      have hz6 : wr.heap.size < w6.heap.size := by have := hb6.size; omega
      have t6_0 : w6.cell? ⟨w.heap.size, 0, none⟩ = some (.string a0_0) := (HB6.out.cell (p := ⟨w.heap.size, 0, none⟩) (by simp)).trans (by simp)
      have t6_1 : w6.cell? ⟨w.heap.size, 1, none⟩ = some (.slice A0_1 l0_1.length c0_1) := (HB6.out.cell (p := ⟨w.heap.size, 1, none⟩) (by simp)).trans (by simp)
      have t6_2 : w6.cell? ⟨w.heap.size, 2, none⟩ = some (.slice A0_2 l0_2.length c0_2) := (HB6.out.cell (p := ⟨w.heap.size, 2, none⟩) (by simp)).trans (by simp)
      have t6_3 : w6.cell? ⟨w.heap.size, 3, none⟩ = some (.slice (some ad) l0_3.length c0_3) := (HB6.out.cell (p := ⟨w.heap.size, 3, none⟩) (by simp)).trans (by simp)
      have t6_4 : w6.cell? ⟨w.heap.size, 4, none⟩ = some (.slice A0_4 l0_4.length c0_4) := (HB6.out.cell (p := ⟨w.heap.size, 4, none⟩) (by simp)).trans (by simp)
      have b6_0 : w6.cell? ⟨wr.heap.size, 0, none⟩ = some (.string y.f0) := (hb6.cell (p := ⟨wr.heap.size, 0, none⟩) (by omega)).trans b5_0
      have b6_1 : w6.cell? ⟨wr.heap.size, 1, none⟩ = some (.slice Ax y.f1.length cx) := (hb6.cell (p := ⟨wr.heap.size, 1, none⟩) (by omega)).trans b5_1
      clear hb6 b5_0 b5_1
      clear t5_0 t5_1 t5_2 t5_3 t5_4
      have e2 : idxErrs l0_1.length (l0_3.take i) (l0_3.drop i) = (if nameOk y.f0 = false then (30 : Int) else if tw = true then 31 else if colsOk l0_1.length y.f1 = false then 33 else idxErrs l0_1.length (l0_3.take (i + 1)) (l0_3.drop (i + 1))) := by
        rw [HD.out, HT.out, ← HTW.out]; rfl
      rw [e2] at HE
      clear e2 HTW
      cases hn : nameOk y.f0
      · rw [if_pos hn] at HE
        have HR' := HE.out
        rw [if_pos (show (30 : Int) ≠ 0 by decide)] at HR'
        subst HR'
        go_wp2
        go_ret
        exact ⟨rfl, HBW6.out⟩
      rw [if_neg (show ¬ (nameOk y.f0 = false) by rw [hn]; decide)] at HE
      clear hn
      cases tw
      case true =>
        rw [if_pos (rfl : true = true)] at HE
        have HR' := HE.out
        rw [if_pos (show (31 : Int) ≠ 0 by decide)] at HR'
        subst HR'
        go_wp2
        go_ret
        exact ⟨rfl, HBW6.out⟩
      rw [if_neg (by decide : ¬ (false = true))] at HE
      go_wp2_with fail
      refine (colsOf_any a0_0 A0_1 c0_1 l0_1 A0_2 c0_2 l0_2 (some ad) c0_3 l0_3 A0_4 c0_4 l0_4 Ax cx y.f1 _ (Kd.C_below HC1.out HBW6.out) HCC1.out (Kd.C_below HC2.out HBW6.out) HCC2.out (Kd.C_below HC3.out HBW6.out) HCC3.out (Kd.C_below HC4.out HBW6.out) HCC4.out (Kd.C_below HXC.out HBW6.out) HXc.out HWY.out.2).mono ?_
      rintro e w7 ⟨rfl, hb7⟩
      have HB7 : Aside0 (Below (w.heap.size + 1) (w.alloc (.cells #[.string a0_0, .slice A0_1 l0_1.length c0_1, .slice A0_2 l0_2.length c0_2, .slice (some ad) l0_3.length c0_3, .slice A0_4 l0_4.length c0_4] 65)) w7) := ⟨HB6.out.trans (hb7.mono (by have := HB6.out.size; simp at this; omega))⟩
      have HBW7 : Aside0 (Below w.heap.size w w7) := ⟨((Below.refl _ w).alloc (Nat.le_refl _) _).trans (HB7.out.mono (by omega))⟩
      clear hb7
      have t7_0 : w7.cell? ⟨w.heap.size, 0, none⟩ = some (.string a0_0) := (HB7.out.cell (p := ⟨w.heap.size, 0, none⟩) (by simp)).trans (by simp)
      have t7_1 : w7.cell? ⟨w.heap.size, 1, none⟩ = some (.slice A0_1 l0_1.length c0_1) := (HB7.out.cell (p := ⟨w.heap.size, 1, none⟩) (by simp)).trans (by simp)
      have t7_2 : w7.cell? ⟨w.heap.size, 2, none⟩ = some (.slice A0_2 l0_2.length c0_2) := (HB7.out.cell (p := ⟨w.heap.size, 2, none⟩) (by simp)).trans (by simp)
      have t7_3 : w7.cell? ⟨w.heap.size, 3, none⟩ = some (.slice (some ad) l0_3.length c0_3) := (HB7.out.cell (p := ⟨w.heap.size, 3, none⟩) (by simp)).trans (by simp)
      have t7_4 : w7.cell? ⟨w.heap.size, 4, none⟩ = some (.slice A0_4 l0_4.length c0_4) := (HB7.out.cell (p := ⟨w.heap.size, 4, none⟩) (by simp)).trans (by simp)
      clear b6_0 b6_1
      clear t6_0 t6_1 t6_2 t6_3 t6_4
      cases hk : colsOk l0_1.length y.f1
      · rw [if_pos hk] at HE
        have HR' := HE.out
        rw [if_pos (show (33 : Int) ≠ 0 by decide)] at HR'
        subst HR'
        go_wp2
        go_ret
        exact ⟨rfl, HBW7.out⟩
      rw [if_neg (show ¬ (colsOk l0_1.length y.f1 = false) by rw [hk]; decide)] at HE
      clear hk
      go_wp2
      go_roundg (l0_3.length - (i + 1))
      case measure => have := HM.out; omega
      case rel => exact ⟨i + 1, by go_num, ⟨by omega⟩, ⟨Nat.le_refl _⟩, HE, HB7⟩
    · obtain rfl : i = l0_3.length := by omega
      have hltz : ¬ (l0_3.length : Int) < (l0_3.length : Int) := by omega
      rw [List.drop_of_length_le (Nat.le_refl _)] at HE
      have HR : Aside0 (refErrs l0_1.length l0_4 = R) := ⟨HE.out⟩
      clear HE HM HK
      go_wp2
      obtain ⟨wo, rfl⟩ : ∃ wo : World, wo = wr := ⟨_, rfl⟩
      go_loopg [84] l0_4.length (fun gg s84  wr => ∃ i : Nat, s84 = .int .i64 i ∧ Aside0 (i ≤ l0_4.length) ∧ Aside0 (l0_4.length - i ≤ gg) ∧ Aside0 (refErrs l0_1.length (l0_4.drop i) = R) ∧ Aside0 (Below (w.heap.size + 1) (w.alloc (.cells #[.string a0_0, .slice A0_1 l0_1.length c0_1, .slice A0_2 l0_2.length c0_2, .slice A0_3 l0_3.length c0_3, .slice A0_4 l0_4.length c0_4] 65)) wr))
      case atStart => exact ⟨0, rfl, ⟨Nat.zero_le _⟩, ⟨by omega⟩, HR, HBr⟩
      case round =>
        obtain ⟨i, rfl, HK, HM, HE, HBq⟩ := hrel
        have hkk2 := HK.out
        clear HR HBr HBWr
        clear tr_0 tr_1 tr_2 tr_3 tr_4
        clear hz0 hkk
        have hz0 : w.heap.size < wr.heap.size := by have := HBq.out.size; simp at this; omega
        have HBWq : Aside0 (Below w.heap.size w wr) := ⟨((Below.refl _ w).alloc (Nat.le_refl _) _).trans (HBq.out.mono (by omega))⟩
        have tq_0 : wr.cell? ⟨w.heap.size, 0, none⟩ = some (.string a0_0) := (HBq.out.cell (p := ⟨w.heap.size, 0, none⟩) (by simp)).trans (by simp)
        have tq_1 : wr.cell? ⟨w.heap.size, 1, none⟩ = some (.slice A0_1 l0_1.length c0_1) := (HBq.out.cell (p := ⟨w.heap.size, 1, none⟩) (by simp)).trans (by simp)
        have tq_2 : wr.cell? ⟨w.heap.size, 2, none⟩ = some (.slice A0_2 l0_2.length c0_2) := (HBq.out.cell (p := ⟨w.heap.size, 2, none⟩) (by simp)).trans (by simp)
        have tq_3 : wr.cell? ⟨w.heap.size, 3, none⟩ = some (.slice A0_3 l0_3.length c0_3) := (HBq.out.cell (p := ⟨w.heap.size, 3, none⟩) (by simp)).trans (by simp)
        have tq_4 : wr.cell? ⟨w.heap.size, 4, none⟩ = some (.slice A0_4 l0_4.length c0_4) := (HBq.out.cell (p := ⟨w.heap.size, 4, none⟩) (by simp)).trans (by simp)
        by_cases hlt : i < l0_4.length
        · have hltz : (i : Int) < (l0_4.length : Int) := by omega
          obtain ⟨ad, Ax, cx, e, hx0, hx1, hxc, hxC⟩ := at_T139 HC4.out (i : Int) (by omega) hltz
          subst e
          simp only [Int.toNat_natCast] at hx0 hx1
          replace hx0 := (HBWq.out.cell (World.block_lt_of_cell? w _ hx0)).trans hx0
          replace hx1 := (HBWq.out.cell (World.block_lt_of_cell? w _ hx1)).trans hx1
          have hy := rd139_get hlt
          generalize rd_T139 l0_4 (i : Int) = y at hx0 hx1 hxc hxC hy
          have HXc := Aside0.mk hxc
          have HXC := Aside0.mk hxC
          have HD : Aside0 (l0_4.drop i = y :: l0_4.drop (i + 1)) := ⟨by rw [List.drop_eq_getElem_cons hlt]; congr 1; exact (List.getElem?_eq_some_iff.1 hy).2⟩
          have HWY : Aside0 (wfR y) := ⟨HW.out.refs y (List.mem_of_getElem? hy)⟩
          clear hy hxc hxC
          go_wp2_with fail
          refine (name_any y.f1 _ (HG.out.below (HBWq.out.alloc HBWq.out.size _)) HWY.out.1).mono ?_
          rintro e w5 ⟨rfl, hb5⟩
          have HB5 : Aside0 (Below (w.heap.size + 1) (w.alloc (.cells #[.string a0_0, .slice A0_1 l0_1.length c0_1, .slice A0_2 l0_2.length c0_2, .slice A0_3 l0_3.length c0_3, .slice (some ad) l0_4.length c0_4] 65)) w5) := ⟨(HBq.out.alloc (by omega) _).trans (hb5.mono (by simp; omega))⟩
          have HBW5 : Aside0 (Below w.heap.size w w5) := ⟨((Below.refl _ w).alloc (Nat.le_refl _) _).trans (HB5.out.mono (by omega))⟩
          have hz5 : wr.heap.size < w5.heap.size := by have := hb5.size; simp at this; omega
          have t5_0 : w5.cell? ⟨w.heap.size, 0, none⟩ = some (.string a0_0) := (HB5.out.cell (p := ⟨w.heap.size, 0, none⟩) (by simp)).trans (by simp)
          have t5_1 : w5.cell? ⟨w.heap.size, 1, none⟩ = some (.slice A0_1 l0_1.length c0_1) := (HB5.out.cell (p := ⟨w.heap.size, 1, none⟩) (by simp)).trans (by simp)
          have t5_2 : w5.cell? ⟨w.heap.size, 2, none⟩ = some (.slice A0_2 l0_2.length c0_2) := (HB5.out.cell (p := ⟨w.heap.size, 2, none⟩) (by simp)).trans (by simp)
          have t5_3 : w5.cell? ⟨w.heap.size, 3, none⟩ = some (.slice A0_3 l0_3.length c0_3) := (HB5.out.cell (p := ⟨w.heap.size, 3, none⟩) (by simp)).trans (by simp)
          have t5_4 : w5.cell? ⟨w.heap.size, 4, none⟩ = some (.slice (some ad) l0_4.length c0_4) := (HB5.out.cell (p := ⟨w.heap.size, 4, none⟩) (by simp)).trans (by simp)
          have b5_0 : w5.cell? ⟨wr.heap.size, 0, none⟩ = some (.slice Ax y.f0.length cx) := (hb5.cell (p := ⟨wr.heap.size, 0, none⟩) (by simp)).trans (by simp)
          have b5_1 : w5.cell? ⟨wr.heap.size, 1, none⟩ = some (.string y.f1) := (hb5.cell (p := ⟨wr.heap.size, 1, none⟩) (by simp)).trans (by simp)
          clear hb5 hx0 hx1
          clear tq_0 tq_1 tq_2 tq_3 tq_4
          have e2 : refErrs l0_1.length (l0_4.drop i) = (if nameOk y.f1 = false then (30 : Int) else if colsOk l0_1.length y.f0 = false then 33 else refErrs l0_1.length (l0_4.drop (i + 1))) := by
            rw [HD.out]; rfl
          rw [e2] at HE
          clear e2
          cases hn : nameOk y.f1
          · rw [if_pos hn] at HE
            have HR' := HE.out
            subst HR'
            go_wp2
            go_ret
            exact ⟨rfl, HBW5.out⟩
          rw [if_neg (by rw [hn]; decide)] at HE
          clear hn
          go_wp2_with fail
          refine (colsOf_any a0_0 A0_1 c0_1 l0_1 A0_2 c0_2 l0_2 A0_3 c0_3 l0_3 (some ad) c0_4 l0_4 Ax cx y.f0 _ (Kd.C_below HC1.out HBW5.out) HCC1.out (Kd.C_below HC2.out HBW5.out) HCC2.out (Kd.C_below HC3.out HBW5.out) HCC3.out (Kd.C_below HC4.out HBW5.out) HCC4.out (Kd.C_below HXC.out HBW5.out) HXc.out HWY.out.2).mono ?_
          rintro e w7 ⟨rfl, hb7⟩
          have HB7 : Aside0 (Below (w.heap.size + 1) (w.alloc (.cells #[.string a0_0, .slice A0_1 l0_1.length c0_1, .slice A0_2 l0_2.length c0_2, .slice A0_3 l0_3.length c0_3, .slice (some ad) l0_4.length c0_4] 65)) w7) := ⟨HB5.out.trans (hb7.mono (by have := HB5.out.size; simp at this; omega))⟩
          have HBW7 : Aside0 (Below w.heap.size w w7) := ⟨((Below.refl _ w).alloc (Nat.le_refl _) _).trans (HB7.out.mono (by omega))⟩
          clear hb7
          cases hk : colsOk l0_1.length y.f0
          · rw [if_pos hk] at HE
            have HR' := HE.out
            subst HR'
            go_wp2
            go_ret
            exact ⟨rfl, HBW7.out⟩
          rw [if_neg (by rw [hk]; decide)] at HE
          clear hk b5_0 b5_1
          clear t5_0 t5_1 t5_2 t5_3 t5_4
          go_wp2
          go_roundg (l0_4.length - (i + 1))
          case measure => have := HM.out; omega
          case rel => exact ⟨i + 1, by go_num, ⟨by omega⟩, ⟨Nat.le_refl _⟩, HE, HB7⟩
        · obtain rfl : i = l0_4.length := by omega
          have hltz : ¬ (l0_4.length : Int) < (l0_4.length : Int) := by omega
          rw [List.drop_of_length_le (Nat.le_refl _)] at HE
          have HR' := HE.out
          subst HR'
          go_wp2
          go_ret
          exact ⟨rfl, HBWq.out⟩
def wfTB (name : ByteArray) (cols : List S105) (key : List Int) (idx : List S115) (refs : List S139) : Bool :=
  decide (name.size ≤ 140737488351232) && cols.all (fun c => decide (c.f0.size ≤ 140737488351232) && decide (c.f3.f3.size ≤ 140737488351232)) && decide (key.length < 9223372036854775807) &&
    idx.all (fun x => decide (x.f0.size ≤ 140737488351232) && decide (x.f1.length < 9223372036854775807)) && refs.all (fun x => decide (x.f1.size ≤ 140737488351232) && decide (x.f0.length < 9223372036854775807))
theorem wfTB_wf {name : ByteArray} {cols : List S105} {key : List Int} {idx : List S115} {refs : List S139} (h : wfTB name cols key idx refs = true) : WfT name cols key idx refs := by
  unfold wfTB at h
  simp only [Bool.and_eq_true, decide_eq_true_eq, List.all_eq_true] at h
  exact ⟨h.1.1.1.1, fun c hc => h.1.1.1.2 c hc, h.1.1.2, fun x hx => h.1.2 x hx, fun x hx => h.2 x hx⟩
end Go.Proofs.YtpiifdbicibelaaDoor.PA
end
section
namespace Go.Proofs.YtpiifdbicibelaaDoor.PA
open Go.RowKit Go.Proofs.YtpiifdbicibelaaDoorW.PrintWords Go.Proofs.YtpiifdbicibelaaDoorW.PrintLast Go.Proofs.YtpiifdbicibelaaDoorW.PrintMore
attribute [local go_sem] max2_int min2_int max_two min_two max_three min_three max_four min_four
set_option linter.unusedVariables false
set_option linter.unusedSimpArgs false
end Go.Proofs.YtpiifdbicibelaaDoor.PA
end
section
namespace Go.Proofs.YtpiifdbicibelaaDoorW.PrintWords
open Go.RowKit Go.Proofs
set_option linter.unusedVariables false
set_option linter.unusedSimpArgs false
/-- A text off the begin of some bytes: a zero with 255 behind it is a zero; a zero alone ends it. -/
def textOff : List UInt8 → List UInt8 → Option (List UInt8 × List UInt8)
  | _, [] => none
  | acc, 0 :: 255 :: l => textOff (acc ++ [0]) l
  | acc, 0 :: l => some (acc, l)
  | acc, b :: l => textOff (acc ++ [b]) l
theorem bt_get (s : ByteArray) (i : Nat) (h : i < s.data.toList.length) : bt s (i : Int) = ((s.data.toList[i]'h).toNat : Int) := by
  unfold bt
  simp only [Int.toNat_natCast]
  rw [dif_pos (by simpa using h)]
  rfl
end Go.Proofs.YtpiifdbicibelaaDoorW.PrintWords
end
section
namespace Go.Proofs.YtpiifdbicibelaaDoor.PA
open Go.RowKit Go.Proofs.YtpiifdbicibelaaDoorW.PrintWords Go.Proofs.YtpiifdbicibelaaDoorW.PrintLast Go.Proofs.YtpiifdbicibelaaDoorW.PrintMore
attribute [local go_sem] max2_int min2_int max_two min_two max_three min_three max_four min_four
set_option linter.unusedVariables false
set_option linter.unusedSimpArgs false
def vellumref01_Same.f (a0_0 : Int) (a0_1 : Int) (a0_2 : Nat) (a0_3 : ByteArray) (a1_0 : Int) (a1_1 : Int) (a1_2 : Nat) (a1_3 : ByteArray) : Option (Bool) := if a0_0 = a1_0 then (if a0_1 = a1_1 then (if ((a0_2 : Nat) : Int) = ((a1_2 : Nat) : Int) then (some (a0_3.toList == a1_3.toList)) else (some false)) else (some false)) else (some false)
set_option maxHeartbeats 8000000 in
set_option maxRecDepth 100000 in
theorem vellumref01_Same.calls (a0_0 : Int) (a0_1 : Int) (a0_2 : Nat) (a0_3 : ByteArray) (a1_0 : Int) (a1_1 : Int) (a1_2 : Nat) (a1_3 : ByteArray) (r : Bool) (w : World) (h : vellumref01_Same.f a0_0 a0_1 a0_2 a0_3 a1_0 a1_1 a1_2 a1_3 = some r) :
    Calls Tryd.prog 46 #[.agg #[.int .i64 a0_0, .int .i64 a0_1, .float .f64 a0_2, .string a0_3], .agg #[.int .i64 a1_0, .int .i64 a1_1, .float .f64 a1_2, .string a1_3]] w fun e w' => e = .returned (.bool r) ∧ Below w.heap.size w w' := by
  have hu50 := Tryd.underlying50
  have HB := am (Below.refl w.heap.size w)
  have H : (if a0_0 = a1_0 then (if a0_1 = a1_1 then (if ((a0_2 : Nat) : Int) = ((a1_2 : Nat) : Int) then (some (a0_3.toList == a1_3.toList)) else (some false)) else (some false)) else (some false)) = some r := h
  clear h
  by_cases c3 : a0_0 = a1_0
  · rw [if_pos c3] at H
    have c3b0 : (a0_0 == a1_0) = true := beq_iff_eq.mpr c3
    have c3b1 : (a0_0 != a1_0) = false := bne_eq_false_iff_eq.mpr c3
    clear c3
    by_cases c4 : a0_1 = a1_1
    · rw [if_pos c4] at H
      have c4b0 : (a0_1 == a1_1) = true := beq_iff_eq.mpr c4
      have c4b1 : (a0_1 != a1_1) = false := bne_eq_false_iff_eq.mpr c4
      clear c4
      by_cases c5 : ((a0_2 : Nat) : Int) = ((a1_2 : Nat) : Int)
      · rw [if_pos c5] at H
        have c5b0 : (((a0_2 : Nat) : Int) == ((a1_2 : Nat) : Int)) = true := beq_iff_eq.mpr c5
        have c5b1 : (((a0_2 : Nat) : Int) != ((a1_2 : Nat) : Int)) = false := bne_eq_false_iff_eq.mpr c5
        clear c5
        obtain rfl := Option.some.inj H
        go_enter Tryd.func46, Tryd.ntmps46
        go_wp2_with (first | ((with_reducible refine gate_dst (N := 2) rfl ?_); refine box_event rfl (N := 2) rfl (cs := #[.int .i64 a0_0, .int .i64 a0_1, .float .f64 a0_2, .string a0_3]) (t := 50) gs ?_; intro gb530 hg w6 hbox hb; have BK530 := am (hbox); have GW530 := gw hg HB; have GE530 := gw hg HB; replace HB := sb HB hb; clear hb hbox hg) | ((with_reducible refine gate_dst (N := 3) rfl ?_); refine box_event rfl (N := 3) rfl (cs := #[.int .i64 a1_0, .int .i64 a1_1, .float .f64 a1_2, .string a1_3]) (t := 50) gs ?_; intro gb531 hg w7 hbox hb; have BK531 := am (hbox); have GW531 := gw hg HB; have GE531 := gw hg HB; have NB530_531 := am ((by rw [hg]; exact Nat.ne_of_lt (blk_lt (bk BK530)) : gb530 ≠ gb531)); have NB531_530 := am ((by rw [hg]; exact Nat.ne_of_gt (blk_lt (bk BK530)) : gb531 ≠ gb530)); replace BK530 := kb BK530 hb; replace HB := sb HB hb; clear hb hbox hg; have hnb8 := NB530_531.out; have hnc8 := NB531_530.out; obtain ⟨Z9_0, Z9_1, Z9_2, Z9_3, Y9_0, Y9_1, Y9_2, Y9_3⟩ := bq4 BK530; obtain ⟨Z10_0, Z10_1, Z10_2, Z10_3, Y10_0, Y10_1, Y10_2, Y10_3⟩ := bq4 BK531))
        repeat (go_quiet (fail); try go_wp2_with (first | ((with_reducible refine gate_dst (N := 2) rfl ?_); refine box_event rfl (N := 2) rfl (cs := #[.int .i64 a0_0, .int .i64 a0_1, .float .f64 a0_2, .string a0_3]) (t := 50) gs ?_; intro gb530 hg w6 hbox hb; have BK530 := am (hbox); have GW530 := gw hg HB; have GE530 := gw hg HB; replace HB := sb HB hb; clear hb hbox hg) | ((with_reducible refine gate_dst (N := 3) rfl ?_); refine box_event rfl (N := 3) rfl (cs := #[.int .i64 a1_0, .int .i64 a1_1, .float .f64 a1_2, .string a1_3]) (t := 50) gs ?_; intro gb531 hg w7 hbox hb; have BK531 := am (hbox); have GW531 := gw hg HB; have GE531 := gw hg HB; have NB530_531 := am ((by rw [hg]; exact Nat.ne_of_lt (blk_lt (bk BK530)) : gb530 ≠ gb531)); have NB531_530 := am ((by rw [hg]; exact Nat.ne_of_gt (blk_lt (bk BK530)) : gb531 ≠ gb530)); replace BK530 := kb BK530 hb; replace HB := sb HB hb; clear hb hbox hg; have hnb8 := NB530_531.out; have hnc8 := NB531_530.out; obtain ⟨Z9_0, Z9_1, Z9_2, Z9_3, Y9_0, Y9_1, Y9_2, Y9_3⟩ := bq4 BK530; obtain ⟨Z10_0, Z10_1, Z10_2, Z10_3, Y10_0, Y10_1, Y10_2, Y10_3⟩ := bq4 BK531)))
        go_ret
        exact ⟨er, bl HB⟩
      · rw [if_neg c5] at H
        have c5b0 : (((a0_2 : Nat) : Int) == ((a1_2 : Nat) : Int)) = false := beq_eq_false_iff_ne.mpr c5
        have c5b1 : (((a0_2 : Nat) : Int) != ((a1_2 : Nat) : Int)) = true := bne_iff_ne.mpr c5
        obtain rfl := Option.some.inj H
        go_enter Tryd.func46, Tryd.ntmps46
        go_wp2_with (first | ((with_reducible refine gate_dst (N := 2) rfl ?_); refine box_event rfl (N := 2) rfl (cs := #[.int .i64 a0_0, .int .i64 a0_1, .float .f64 a0_2, .string a0_3]) (t := 50) gs ?_; intro gb530 hg w11 hbox hb; have BK530 := am (hbox); have GW530 := gw hg HB; have GE530 := gw hg HB; replace HB := sb HB hb; clear hb hbox hg) | ((with_reducible refine gate_dst (N := 3) rfl ?_); refine box_event rfl (N := 3) rfl (cs := #[.int .i64 a1_0, .int .i64 a1_1, .float .f64 a1_2, .string a1_3]) (t := 50) gs ?_; intro gb531 hg w12 hbox hb; have BK531 := am (hbox); have GW531 := gw hg HB; have GE531 := gw hg HB; have NB530_531 := am ((by rw [hg]; exact Nat.ne_of_lt (blk_lt (bk BK530)) : gb530 ≠ gb531)); have NB531_530 := am ((by rw [hg]; exact Nat.ne_of_gt (blk_lt (bk BK530)) : gb531 ≠ gb530)); replace BK530 := kb BK530 hb; replace HB := sb HB hb; clear hb hbox hg; have hnb13 := NB530_531.out; have hnc13 := NB531_530.out; obtain ⟨Z14_0, Z14_1, Z14_2, Z14_3, Y14_0, Y14_1, Y14_2, Y14_3⟩ := bq4 BK530; obtain ⟨Z15_0, Z15_1, Z15_2, Z15_3, Y15_0, Y15_1, Y15_2, Y15_3⟩ := bq4 BK531))
        repeat (go_quiet (fail); try go_wp2_with (first | ((with_reducible refine gate_dst (N := 2) rfl ?_); refine box_event rfl (N := 2) rfl (cs := #[.int .i64 a0_0, .int .i64 a0_1, .float .f64 a0_2, .string a0_3]) (t := 50) gs ?_; intro gb530 hg w11 hbox hb; have BK530 := am (hbox); have GW530 := gw hg HB; have GE530 := gw hg HB; replace HB := sb HB hb; clear hb hbox hg) | ((with_reducible refine gate_dst (N := 3) rfl ?_); refine box_event rfl (N := 3) rfl (cs := #[.int .i64 a1_0, .int .i64 a1_1, .float .f64 a1_2, .string a1_3]) (t := 50) gs ?_; intro gb531 hg w12 hbox hb; have BK531 := am (hbox); have GW531 := gw hg HB; have GE531 := gw hg HB; have NB530_531 := am ((by rw [hg]; exact Nat.ne_of_lt (blk_lt (bk BK530)) : gb530 ≠ gb531)); have NB531_530 := am ((by rw [hg]; exact Nat.ne_of_gt (blk_lt (bk BK530)) : gb531 ≠ gb530)); replace BK530 := kb BK530 hb; replace HB := sb HB hb; clear hb hbox hg; have hnb13 := NB530_531.out; have hnc13 := NB531_530.out; obtain ⟨Z14_0, Z14_1, Z14_2, Z14_3, Y14_0, Y14_1, Y14_2, Y14_3⟩ := bq4 BK530; obtain ⟨Z15_0, Z15_1, Z15_2, Z15_3, Y15_0, Y15_1, Y15_2, Y15_3⟩ := bq4 BK531)))
        go_ret
        exact ⟨er, bl HB⟩
    · rw [if_neg c4] at H
      have c4b0 : (a0_1 == a1_1) = false := beq_eq_false_iff_ne.mpr c4
      have c4b1 : (a0_1 != a1_1) = true := bne_iff_ne.mpr c4
      obtain rfl := Option.some.inj H
      go_enter Tryd.func46, Tryd.ntmps46
      go_wp2_with (first | ((with_reducible refine gate_dst (N := 2) rfl ?_); refine box_event rfl (N := 2) rfl (cs := #[.int .i64 a0_0, .int .i64 a0_1, .float .f64 a0_2, .string a0_3]) (t := 50) gs ?_; intro gb530 hg w16 hbox hb; have BK530 := am (hbox); have GW530 := gw hg HB; have GE530 := gw hg HB; replace HB := sb HB hb; clear hb hbox hg) | ((with_reducible refine gate_dst (N := 3) rfl ?_); refine box_event rfl (N := 3) rfl (cs := #[.int .i64 a1_0, .int .i64 a1_1, .float .f64 a1_2, .string a1_3]) (t := 50) gs ?_; intro gb531 hg w17 hbox hb; have BK531 := am (hbox); have GW531 := gw hg HB; have GE531 := gw hg HB; have NB530_531 := am ((by rw [hg]; exact Nat.ne_of_lt (blk_lt (bk BK530)) : gb530 ≠ gb531)); have NB531_530 := am ((by rw [hg]; exact Nat.ne_of_gt (blk_lt (bk BK530)) : gb531 ≠ gb530)); replace BK530 := kb BK530 hb; replace HB := sb HB hb; clear hb hbox hg; have hnb18 := NB530_531.out; have hnc18 := NB531_530.out; obtain ⟨Z19_0, Z19_1, Z19_2, Z19_3, Y19_0, Y19_1, Y19_2, Y19_3⟩ := bq4 BK530; obtain ⟨Z20_0, Z20_1, Z20_2, Z20_3, Y20_0, Y20_1, Y20_2, Y20_3⟩ := bq4 BK531))
      repeat (go_quiet (fail); try go_wp2_with (first | ((with_reducible refine gate_dst (N := 2) rfl ?_); refine box_event rfl (N := 2) rfl (cs := #[.int .i64 a0_0, .int .i64 a0_1, .float .f64 a0_2, .string a0_3]) (t := 50) gs ?_; intro gb530 hg w16 hbox hb; have BK530 := am (hbox); have GW530 := gw hg HB; have GE530 := gw hg HB; replace HB := sb HB hb; clear hb hbox hg) | ((with_reducible refine gate_dst (N := 3) rfl ?_); refine box_event rfl (N := 3) rfl (cs := #[.int .i64 a1_0, .int .i64 a1_1, .float .f64 a1_2, .string a1_3]) (t := 50) gs ?_; intro gb531 hg w17 hbox hb; have BK531 := am (hbox); have GW531 := gw hg HB; have GE531 := gw hg HB; have NB530_531 := am ((by rw [hg]; exact Nat.ne_of_lt (blk_lt (bk BK530)) : gb530 ≠ gb531)); have NB531_530 := am ((by rw [hg]; exact Nat.ne_of_gt (blk_lt (bk BK530)) : gb531 ≠ gb530)); replace BK530 := kb BK530 hb; replace HB := sb HB hb; clear hb hbox hg; have hnb18 := NB530_531.out; have hnc18 := NB531_530.out; obtain ⟨Z19_0, Z19_1, Z19_2, Z19_3, Y19_0, Y19_1, Y19_2, Y19_3⟩ := bq4 BK530; obtain ⟨Z20_0, Z20_1, Z20_2, Z20_3, Y20_0, Y20_1, Y20_2, Y20_3⟩ := bq4 BK531)))
      go_ret
      exact ⟨er, bl HB⟩
  · rw [if_neg c3] at H
    have c3b0 : (a0_0 == a1_0) = false := beq_eq_false_iff_ne.mpr c3
    have c3b1 : (a0_0 != a1_0) = true := bne_iff_ne.mpr c3
    obtain rfl := Option.some.inj H
    go_enter Tryd.func46, Tryd.ntmps46
    go_wp2_with (first | ((with_reducible refine gate_dst (N := 2) rfl ?_); refine box_event rfl (N := 2) rfl (cs := #[.int .i64 a0_0, .int .i64 a0_1, .float .f64 a0_2, .string a0_3]) (t := 50) gs ?_; intro gb530 hg w21 hbox hb; have BK530 := am (hbox); have GW530 := gw hg HB; have GE530 := gw hg HB; replace HB := sb HB hb; clear hb hbox hg) | ((with_reducible refine gate_dst (N := 3) rfl ?_); refine box_event rfl (N := 3) rfl (cs := #[.int .i64 a1_0, .int .i64 a1_1, .float .f64 a1_2, .string a1_3]) (t := 50) gs ?_; intro gb531 hg w22 hbox hb; have BK531 := am (hbox); have GW531 := gw hg HB; have GE531 := gw hg HB; have NB530_531 := am ((by rw [hg]; exact Nat.ne_of_lt (blk_lt (bk BK530)) : gb530 ≠ gb531)); have NB531_530 := am ((by rw [hg]; exact Nat.ne_of_gt (blk_lt (bk BK530)) : gb531 ≠ gb530)); replace BK530 := kb BK530 hb; replace HB := sb HB hb; clear hb hbox hg; have hnb23 := NB530_531.out; have hnc23 := NB531_530.out; obtain ⟨Z24_0, Z24_1, Z24_2, Z24_3, Y24_0, Y24_1, Y24_2, Y24_3⟩ := bq4 BK530; obtain ⟨Z25_0, Z25_1, Z25_2, Z25_3, Y25_0, Y25_1, Y25_2, Y25_3⟩ := bq4 BK531))
    repeat (go_quiet (fail); try go_wp2_with (first | ((with_reducible refine gate_dst (N := 2) rfl ?_); refine box_event rfl (N := 2) rfl (cs := #[.int .i64 a0_0, .int .i64 a0_1, .float .f64 a0_2, .string a0_3]) (t := 50) gs ?_; intro gb530 hg w21 hbox hb; have BK530 := am (hbox); have GW530 := gw hg HB; have GE530 := gw hg HB; replace HB := sb HB hb; clear hb hbox hg) | ((with_reducible refine gate_dst (N := 3) rfl ?_); refine box_event rfl (N := 3) rfl (cs := #[.int .i64 a1_0, .int .i64 a1_1, .float .f64 a1_2, .string a1_3]) (t := 50) gs ?_; intro gb531 hg w22 hbox hb; have BK531 := am (hbox); have GW531 := gw hg HB; have GE531 := gw hg HB; have NB530_531 := am ((by rw [hg]; exact Nat.ne_of_lt (blk_lt (bk BK530)) : gb530 ≠ gb531)); have NB531_530 := am ((by rw [hg]; exact Nat.ne_of_gt (blk_lt (bk BK530)) : gb531 ≠ gb530)); replace BK530 := kb BK530 hb; replace HB := sb HB hb; clear hb hbox hg; have hnb23 := NB530_531.out; have hnc23 := NB531_530.out; obtain ⟨Z24_0, Z24_1, Z24_2, Z24_3, Y24_0, Y24_1, Y24_2, Y24_3⟩ := bq4 BK530; obtain ⟨Z25_0, Z25_1, Z25_2, Z25_3, Y25_0, Y25_1, Y25_2, Y25_3⟩ := bq4 BK531)))
    go_ret
    exact ⟨er, bl HB⟩
def vellumref01_SameRow.l0 : Nat → List (S50) → List (S50) → Int → Option (Bool)
  | 0, _, _, _ => none
  | k + 1, x0, x1, x5 => if x5 < (x0.length : Int) then (if 0 ≤ x5 then (if x5 < (x1.length : Int) then ((vellumref01_Same.f ((rd_T50 x0 x5).f0) ((rd_T50 x0 x5).f1) ((rd_T50 x0 x5).f2) ((rd_T50 x0 x5).f3) ((rd_T50 x1 x5).f0) ((rd_T50 x1 x5).f1) ((rd_T50 x1 x5).f2) ((rd_T50 x1 x5).f3)).bind fun t534 => (if t534 = true then (vellumref01_SameRow.l0 k x0 x1 (wrap64 (x5 + 1))) else (some false))) else (none)) else (none)) else (some true)
def vellumref01_SameRow.f (k : Nat) (l0 : List (S50)) (l1 : List (S50)) : Option (Bool) := if (l0.length : Int) = (l1.length : Int) then (vellumref01_SameRow.l0 k l0 l1 0) else (some false)
def vellumref01_SameRow.T6 : Bool × List (List Nat × List Nat) := (true, [([], []), ([], []), ([0, 1], [0, 1]), ([2], [2]), ([], []), ([], []), ([4, 5], [4, 5]), ([6], [6]), ([3, 7], [3, 7]), ([8], [8])])
def vellumref01_SameRow.B6 : List Nat := [0, 0, 3, 7, 0, 0, 48, 112, 255, 511]
theorem vellumref01_SameRow.tab6 : rtab .any (opsOf Tryd.f45 6) = vellumref01_SameRow.T6 := by kernel_rfl
theorem vellumref01_SameRow.bits6 : waitsOk vellumref01_SameRow.T6.2 vellumref01_SameRow.B6 = true := by kernel_rfl
set_option maxHeartbeats 8000000 in
set_option maxRecDepth 100000 in
theorem vellumref01_SameRow.calls (k : Nat) (A0 : Option Addr) (c0 : Nat) (l0 : List (S50)) (A1 : Option Addr) (c1 : Nat) (l1 : List (S50)) (r : Bool) (w : World) (hr0 : Kd.C k50 w A0 l0.length l0) (hc0 : l0.length ≤ c0) (hr1 : Kd.C k50 w A1 l1.length l1) (hc1 : l1.length ≤ c1) (h : vellumref01_SameRow.f k l0 l1 = some r) :
    Calls Tryd.prog 45 #[.slice A0 l0.length c0, .slice A1 l1.length c1] w fun e w' => e = .returned (.bool r) ∧ Below w.heap.size w w' := by
  have hu50 := Tryd.underlying50
  have HR0 := am hr0
  have HC0 := am hc0
  clear hr0 hc0
  have HR1 := am hr1
  have HC1 := am hc1
  clear hr1 hc1
  have HB := am (Below.refl w.heap.size w)
  have H : (if (l0.length : Int) = (l1.length : Int) then (vellumref01_SameRow.l0 k l0 l1 0) else (some false)) = some r := h
  clear h
  by_cases c3 : (l0.length : Int) = (l1.length : Int)
  · rw [if_pos c3] at H
    have c3b0 : ((l0.length : Int) == (l1.length : Int)) = true := beq_iff_eq.mpr c3
    have c3b1 : ((l0.length : Int) != (l1.length : Int)) = false := bne_eq_false_iff_eq.mpr c3
    have c3b2 : (l0.length == l1.length) = true := by first | simpa using c3 | (simp at c3 ⊢; omega)
    clear c3
    have H' := am H
    clear H
    go_enter Tryd.func45, Tryd.ntmps45
    go_wp2
    go_loopg [5] k (fun kq v5 w' => ∃ (x5_1 : Int), v5 = .int .i64 x5_1 ∧ Aside0 (vellumref01_SameRow.l0 kq l0 l1 x5_1 = some r) ∧ Aside0 (kq ≤ k) ∧ Aside0 (Below w.heap.size w w'))
    case atStart => exact ⟨(0), eb, H', ⟨Nat.le_refl _⟩, ⟨bl HB⟩⟩
    case round =>
      clear H'
      try clear c1
      try clear p2
      try clear c3
      try clear c3b0
      try clear c3b1
      try clear c3b2
      obtain ⟨x5_1, rfl, HA, HK1, HB⟩ := hrel
      cases gk with
      | zero => exact absurd HA.out (by simp [vellumref01_SameRow.l0])
      | succ k1 =>
        have H := HA.out
        clear HA
        simp only [vellumref01_SameRow.l0] at H
        by_cases c4 : x5_1 < (l0.length : Int)
        · rw [if_pos c4] at H
          have c4b0 : decide (x5_1 < (l0.length : Int)) = true := decide_eq_true c4
          clear c4
          by_cases c5 : 0 ≤ x5_1
          · rw [if_pos c5] at H
            have c5b0 : decide (0 ≤ x5_1) = true := decide_eq_true c5
            clear c5
            by_cases c6 : x5_1 < (l1.length : Int)
            · rw [if_pos c6] at H
              have c6b0 : decide (x5_1 < (l1.length : Int)) = true := decide_eq_true c6
              clear c6
              replace H := Option.bind_eq_some_iff.mp H
              obtain ⟨t534, A70, H⟩ := H
              replace H : (if t534 = true then (vellumref01_SameRow.l0 k1 l0 l1 (wrap64 (x5_1 + 1))) else (some false)) = some r := H
              have A7 := am A70
              clear A70
              by_cases c8 : t534 = true
              · subst c8
                have H1 : (vellumref01_SameRow.l0 k1 l0 l1 (wrap64 (x5_1 + 1))) = some r := by rw [if_pos rfl] at H; exact H
                clear H
                have H := H1
                clear H1
                have H' := am H
                clear H
                try go_wp2
                have n0_ := am (below_drew1 HB.out)
                clear HB
                have HB := n0_
                clear n0_
                have p532 : 0 ≤ (x5_1 : Int) := oda
                have q532 : x5_1 < (l0.length : Int) := oda
                obtain ⟨ad532, e532, hx532_0, hx532_1, hx532_2, hx532_3⟩ := at_T50 HR0.out x5_1 p532 q532
                have hw532_3 := hx532_3
                have hw532_2 := hx532_2
                have hw532_1 := hx532_1
                have hw532_0 := hx532_0
                cases e532
                replace hx532_0 := hc HB hx532_0
                replace hx532_1 := hc HB hx532_1
                replace hx532_2 := hc HB hx532_2
                replace hx532_3 := hc HB hx532_3
                replace p532 := eq_true p532
                replace q532 := eq_true q532
                have p533 : 0 ≤ (x5_1 : Int) := oda
                have q533 : x5_1 < (l1.length : Int) := oda
                obtain ⟨ad533, e533, hx533_0, hx533_1, hx533_2, hx533_3⟩ := at_T50 HR1.out x5_1 p533 q533
                have hw533_3 := hx533_3
                have hw533_2 := hx533_2
                have hw533_1 := hx533_1
                have hw533_0 := hx533_0
                cases e533
                replace hx533_0 := hc HB hx533_0
                replace hx533_1 := hc HB hx533_1
                replace hx533_2 := hc HB hx533_2
                replace hx533_3 := hc HB hx533_3
                replace p533 := eq_true p533
                replace q533 := eq_true q533
                refine start_ (n := 10) (S := fun w' => w'.cell? (ad532.add ((x5_1).toNat * 4)) = some (.int .i64 ((rd_T50 l0 x5_1).f0)) ∧ w'.cell? ⟨(ad532.add ((x5_1).toNat * 4)).block, (ad532.add ((x5_1).toNat * 4)).off + 1, none⟩ = some (.int .i64 ((rd_T50 l0 x5_1).f1)) ∧ w'.cell? ⟨(ad532.add ((x5_1).toNat * 4)).block, (ad532.add ((x5_1).toNat * 4)).off + 2, none⟩ = some (.float .f64 ((rd_T50 l0 x5_1).f2)) ∧ w'.cell? ⟨(ad532.add ((x5_1).toNat * 4)).block, (ad532.add ((x5_1).toNat * 4)).off + 3, none⟩ = some (.string ((rd_T50 l0 x5_1).f3)) ∧ w'.cell? (ad533.add ((x5_1).toNat * 4)) = some (.int .i64 ((rd_T50 l1 x5_1).f0)) ∧ w'.cell? ⟨(ad533.add ((x5_1).toNat * 4)).block, (ad533.add ((x5_1).toNat * 4)).off + 1, none⟩ = some (.int .i64 ((rd_T50 l1 x5_1).f1)) ∧ w'.cell? ⟨(ad533.add ((x5_1).toNat * 4)).block, (ad533.add ((x5_1).toNat * 4)).off + 2, none⟩ = some (.float .f64 ((rd_T50 l1 x5_1).f2)) ∧ w'.cell? ⟨(ad533.add ((x5_1).toNat * 4)).block, (ad533.add ((x5_1).toNat * 4)).off + 3, none⟩ = some (.string ((rd_T50 l1 x5_1).f3))) (ds := []) (bb 0 10) (by kernel_rfl) rfl rfl ⟨(hc HB hw532_0), (hc HB hw532_1), (hc HB hw532_2), (hc HB hw532_3), (hc HB hw533_0), (hc HB hw533_1), (hc HB hw533_2), (hc HB hw533_3)⟩ (fun hHeld => ?_); refine with_tabW vellumref01_SameRow.tab6 vellumref01_SameRow.bits6 (fun HT_ HW_ => ?_)
                generalize wr.drew = w9 at HB hx532_0 hx532_1 hx532_2 hx532_3 hx533_0 hx533_1 hx533_2 hx533_3 hHeld ⊢
                refine pu HT_ 0 (some 17) (bb 1 10) ?_
                refine pu HT_ 1 (some 18) (bb 2 10) ?_
                refine pu HT_ 2 (some 19) (bb 3 10) ?_
                refine pu HT_ 4 (some 21) (bs 10 23) ?_
                refine pu HT_ 5 (some 22) (bs 10 55) ?_
                refine pu HT_ 6 (some 23) (bs 10 119) ?_
                refine tk HT_ HW_ hHeld 3 (some 20) (bb 7 10) ?_
                refine tk HT_ HW_ hHeld 7 (some 24) (bb 8 10) ?_
                refine one_ (i := 8) (N := some 25) (bb 9 10) rfl rfl (one_of HT_.out (by kernel_rfl)) (by decide) (fun K hK => ?_)
                refine goes_ Tryd.func46 (by kernel_rfl) rfl #[.agg #[.int .i64 ((rd_T50 l0 x5_1).f0), .int .i64 ((rd_T50 l0 x5_1).f1), .float .f64 ((rd_T50 l0 x5_1).f2), .string ((rd_T50 l0 x5_1).f3)], .agg #[.int .i64 ((rd_T50 l1 x5_1).f0), .int .i64 ((rd_T50 l1 x5_1).f1), .float .f64 ((rd_T50 l1 x5_1).f2), .string ((rd_T50 l1 x5_1).f3)]] (by rfl) rfl rfl ar ?_
                with_reducible refine (vellumref01_Same.calls ((rd_T50 l0 x5_1).f0) ((rd_T50 l0 x5_1).f1) ((rd_T50 l0 x5_1).f2) ((rd_T50 l0 x5_1).f3) ((rd_T50 l1 x5_1).f0) ((rd_T50 l1 x5_1).f1) ((rd_T50 l1 x5_1).f2) ((rd_T50 l1 x5_1).f3) true _ A7.out).mono ?_
                rintro e w10 ⟨rfl, hb⟩
                refine ⟨_, rfl, ?_⟩
                have n0_ := sb HB hb
                clear HB
                have HB := n0_
                clear n0_
                (try clear hb)
                (try clear hb2)
                (try clear hk)
                (try clear hi)
                refine hK.out _ _ ⟨(hc HB hw532_0), (hc HB hw532_1), (hc HB hw532_2), (hc HB hw532_3), (hc HB hw533_0), (hc HB hw533_1), (hc HB hw533_2), (hc HB hw533_3)⟩ (fun hHeld => ?_)
                clear hK K
                refine norm_ (a' := ?_) ?_ ?_
                rotate_left
                · show Act.put _ (some 25) _ = _
                  simp only [Act.put, List.setIfInBounds_toArray, List.set_cons_zero, List.set_cons_succ, i64_w, i32_w]
                  rfl
                refine pu HT_ 9 (some 26) (bb 10 10) ?_
                refine done_ (done_of HT_.out (by kernel_rfl)) ?_
                try go_wp2
                go_roundg k1
                case measure => have := HK1.out; omega
                case rel => exact ⟨(wrap64 (x5_1 + 1)), eb, H', ⟨by have := HK1.out; omega⟩, ⟨bl HB⟩⟩
              · replace c8 := Bool.eq_false_iff.mpr c8
                subst c8
                have H1 : (some false) = some r := by rw [if_neg (show ¬ (false = true) by decide)] at H; exact H
                clear H
                have H := H1
                clear H1
                obtain rfl := Option.some.inj H
                try go_wp2
                have n0_ := am (below_drew1 HB.out)
                clear HB
                have HB := n0_
                clear n0_
                have p532 : 0 ≤ (x5_1 : Int) := oda
                have q532 : x5_1 < (l0.length : Int) := oda
                obtain ⟨ad532, e532, hx532_0, hx532_1, hx532_2, hx532_3⟩ := at_T50 HR0.out x5_1 p532 q532
                have hw532_3 := hx532_3
                have hw532_2 := hx532_2
                have hw532_1 := hx532_1
                have hw532_0 := hx532_0
                cases e532
                replace hx532_0 := hc HB hx532_0
                replace hx532_1 := hc HB hx532_1
                replace hx532_2 := hc HB hx532_2
                replace hx532_3 := hc HB hx532_3
                replace p532 := eq_true p532
                replace q532 := eq_true q532
                have p533 : 0 ≤ (x5_1 : Int) := oda
                have q533 : x5_1 < (l1.length : Int) := oda
                obtain ⟨ad533, e533, hx533_0, hx533_1, hx533_2, hx533_3⟩ := at_T50 HR1.out x5_1 p533 q533
                have hw533_3 := hx533_3
                have hw533_2 := hx533_2
                have hw533_1 := hx533_1
                have hw533_0 := hx533_0
                cases e533
                replace hx533_0 := hc HB hx533_0
                replace hx533_1 := hc HB hx533_1
                replace hx533_2 := hc HB hx533_2
                replace hx533_3 := hc HB hx533_3
                replace p533 := eq_true p533
                replace q533 := eq_true q533
                refine start_ (n := 10) (S := fun w' => w'.cell? (ad532.add ((x5_1).toNat * 4)) = some (.int .i64 ((rd_T50 l0 x5_1).f0)) ∧ w'.cell? ⟨(ad532.add ((x5_1).toNat * 4)).block, (ad532.add ((x5_1).toNat * 4)).off + 1, none⟩ = some (.int .i64 ((rd_T50 l0 x5_1).f1)) ∧ w'.cell? ⟨(ad532.add ((x5_1).toNat * 4)).block, (ad532.add ((x5_1).toNat * 4)).off + 2, none⟩ = some (.float .f64 ((rd_T50 l0 x5_1).f2)) ∧ w'.cell? ⟨(ad532.add ((x5_1).toNat * 4)).block, (ad532.add ((x5_1).toNat * 4)).off + 3, none⟩ = some (.string ((rd_T50 l0 x5_1).f3)) ∧ w'.cell? (ad533.add ((x5_1).toNat * 4)) = some (.int .i64 ((rd_T50 l1 x5_1).f0)) ∧ w'.cell? ⟨(ad533.add ((x5_1).toNat * 4)).block, (ad533.add ((x5_1).toNat * 4)).off + 1, none⟩ = some (.int .i64 ((rd_T50 l1 x5_1).f1)) ∧ w'.cell? ⟨(ad533.add ((x5_1).toNat * 4)).block, (ad533.add ((x5_1).toNat * 4)).off + 2, none⟩ = some (.float .f64 ((rd_T50 l1 x5_1).f2)) ∧ w'.cell? ⟨(ad533.add ((x5_1).toNat * 4)).block, (ad533.add ((x5_1).toNat * 4)).off + 3, none⟩ = some (.string ((rd_T50 l1 x5_1).f3))) (ds := []) (bb 0 10) (by kernel_rfl) rfl rfl ⟨(hc HB hw532_0), (hc HB hw532_1), (hc HB hw532_2), (hc HB hw532_3), (hc HB hw533_0), (hc HB hw533_1), (hc HB hw533_2), (hc HB hw533_3)⟩ (fun hHeld => ?_); refine with_tabW vellumref01_SameRow.tab6 vellumref01_SameRow.bits6 (fun HT_ HW_ => ?_)
                generalize wr.drew = w11 at HB hx532_0 hx532_1 hx532_2 hx532_3 hx533_0 hx533_1 hx533_2 hx533_3 hHeld ⊢
                refine pu HT_ 0 (some 17) (bb 1 10) ?_
                refine pu HT_ 1 (some 18) (bb 2 10) ?_
                refine pu HT_ 2 (some 19) (bb 3 10) ?_
                refine pu HT_ 4 (some 21) (bs 10 23) ?_
                refine pu HT_ 5 (some 22) (bs 10 55) ?_
                refine pu HT_ 6 (some 23) (bs 10 119) ?_
                refine tk HT_ HW_ hHeld 3 (some 20) (bb 7 10) ?_
                refine tk HT_ HW_ hHeld 7 (some 24) (bb 8 10) ?_
                refine one_ (i := 8) (N := some 25) (bb 9 10) rfl rfl (one_of HT_.out (by kernel_rfl)) (by decide) (fun K hK => ?_)
                refine goes_ Tryd.func46 (by kernel_rfl) rfl #[.agg #[.int .i64 ((rd_T50 l0 x5_1).f0), .int .i64 ((rd_T50 l0 x5_1).f1), .float .f64 ((rd_T50 l0 x5_1).f2), .string ((rd_T50 l0 x5_1).f3)], .agg #[.int .i64 ((rd_T50 l1 x5_1).f0), .int .i64 ((rd_T50 l1 x5_1).f1), .float .f64 ((rd_T50 l1 x5_1).f2), .string ((rd_T50 l1 x5_1).f3)]] (by rfl) rfl rfl ar ?_
                with_reducible refine (vellumref01_Same.calls ((rd_T50 l0 x5_1).f0) ((rd_T50 l0 x5_1).f1) ((rd_T50 l0 x5_1).f2) ((rd_T50 l0 x5_1).f3) ((rd_T50 l1 x5_1).f0) ((rd_T50 l1 x5_1).f1) ((rd_T50 l1 x5_1).f2) ((rd_T50 l1 x5_1).f3) false _ A7.out).mono ?_
                rintro e w12 ⟨rfl, hb⟩
                refine ⟨_, rfl, ?_⟩
                have n0_ := sb HB hb
                clear HB
                have HB := n0_
                clear n0_
                (try clear hb)
                (try clear hb2)
                (try clear hk)
                (try clear hi)
                refine hK.out _ _ ⟨(hc HB hw532_0), (hc HB hw532_1), (hc HB hw532_2), (hc HB hw532_3), (hc HB hw533_0), (hc HB hw533_1), (hc HB hw533_2), (hc HB hw533_3)⟩ (fun hHeld => ?_)
                clear hK K
                refine norm_ (a' := ?_) ?_ ?_
                rotate_left
                · show Act.put _ (some 25) _ = _
                  simp only [Act.put, List.setIfInBounds_toArray, List.set_cons_zero, List.set_cons_succ, i64_w, i32_w]
                  rfl
                refine pu HT_ 9 (some 26) (bb 10 10) ?_
                refine done_ (done_of HT_.out (by kernel_rfl)) ?_
                try go_wp2
                go_ret
                exact ⟨er, bl HB⟩
            · rw [if_neg c6] at H
              exact absurd H (by simp)
          · rw [if_neg c5] at H
            exact absurd H (by simp)
        · rw [if_neg c4] at H
          have c4b0 : decide (x5_1 < (l0.length : Int)) = false := decide_eq_false c4
          clear c4
          obtain rfl := Option.some.inj H
          go_wp2
          go_ret
          exact ⟨er, bl HB⟩
  · rw [if_neg c3] at H
    have c3b0 : ((l0.length : Int) == (l1.length : Int)) = false := beq_eq_false_iff_ne.mpr c3
    have c3b1 : ((l0.length : Int) != (l1.length : Int)) = true := bne_iff_ne.mpr c3
    have c3b2 : (l0.length == l1.length) = false := by first | simpa using c3 | (simp at c3 ⊢; omega)
    obtain rfl := Option.some.inj H
    go_enter Tryd.func45, Tryd.ntmps45
    go_wp2
    go_ret
    exact ⟨er, bl HB⟩
def row_mark.f (a0_0 : Int) (a0_1 : Int) (a0_2 : Nat) (a0_3 : ByteArray) : Option (Int) := if a0_0 = 0 then (some 0) else (if a0_0 = 1 then (if a0_1 = 1 then (some 2) else (some 1)) else (some 1))
set_option maxHeartbeats 8000000 in
set_option maxRecDepth 100000 in
theorem row_mark.calls (a0_0 : Int) (a0_1 : Int) (a0_2 : Nat) (a0_3 : ByteArray) (r : Int) (w : World) (h : row_mark.f a0_0 a0_1 a0_2 a0_3 = some r) :
    Calls Tryd.prog 119 #[.agg #[.int .i64 a0_0, .int .i64 a0_1, .float .f64 a0_2, .string a0_3]] w fun e w' => e = .returned (.int .u8 r) ∧ Below w.heap.size w w' := by
  have hu50 := Tryd.underlying50
  have HB := am (Below.refl w.heap.size w)
  have H : (if a0_0 = 0 then (some 0) else (if a0_0 = 1 then (if a0_1 = 1 then (some 2) else (some 1)) else (some 1))) = some r := h
  clear h
  by_cases c2 : a0_0 = 0
  · rw [if_pos c2] at H
    have c2b0 : (a0_0 == 0) = true := beq_iff_eq.mpr c2
    have c2b1 : (a0_0 != 0) = false := bne_eq_false_iff_eq.mpr c2
    clear c2
    obtain rfl := Option.some.inj H
    go_enter Tryd.func119, Tryd.ntmps119
    go_wp2_with (first | ((with_reducible refine gate_dst (N := 1) rfl ?_); refine box_event rfl (N := 1) rfl (cs := #[.int .i64 a0_0, .int .i64 a0_1, .float .f64 a0_2, .string a0_3]) (t := 50) gs ?_; intro gb569 hg w3 hbox hb; have BK569 := am (hbox); have GW569 := gw hg HB; have GE569 := gw hg HB; replace HB := sb HB hb; clear hb hbox hg; obtain ⟨Z4_0, Z4_1, Z4_2, Z4_3, Y4_0, Y4_1, Y4_2, Y4_3⟩ := bq4 BK569))
    go_ret
    exact ⟨er, bl HB⟩
  · rw [if_neg c2] at H
    have c2b0 : (a0_0 == 0) = false := beq_eq_false_iff_ne.mpr c2
    have c2b1 : (a0_0 != 0) = true := bne_iff_ne.mpr c2
    by_cases c5 : a0_0 = 1
    · rw [if_pos c5] at H
      have c5b0 : (a0_0 == 1) = true := beq_iff_eq.mpr c5
      have c5b1 : (a0_0 != 1) = false := bne_eq_false_iff_eq.mpr c5
      clear c5
      by_cases c6 : a0_1 = 1
      · rw [if_pos c6] at H
        have c6b0 : (a0_1 == 1) = true := beq_iff_eq.mpr c6
        have c6b1 : (a0_1 != 1) = false := bne_eq_false_iff_eq.mpr c6
        clear c6
        obtain rfl := Option.some.inj H
        go_enter Tryd.func119, Tryd.ntmps119
        go_wp2_with (first | ((with_reducible refine gate_dst (N := 1) rfl ?_); refine box_event rfl (N := 1) rfl (cs := #[.int .i64 a0_0, .int .i64 a0_1, .float .f64 a0_2, .string a0_3]) (t := 50) gs ?_; intro gb569 hg w7 hbox hb; have BK569 := am (hbox); have GW569 := gw hg HB; have GE569 := gw hg HB; replace HB := sb HB hb; clear hb hbox hg; obtain ⟨Z8_0, Z8_1, Z8_2, Z8_3, Y8_0, Y8_1, Y8_2, Y8_3⟩ := bq4 BK569))
        go_ret
        exact ⟨er, bl HB⟩
      · rw [if_neg c6] at H
        have c6b0 : (a0_1 == 1) = false := beq_eq_false_iff_ne.mpr c6
        have c6b1 : (a0_1 != 1) = true := bne_iff_ne.mpr c6
        obtain rfl := Option.some.inj H
        go_enter Tryd.func119, Tryd.ntmps119
        go_wp2_with (first | ((with_reducible refine gate_dst (N := 1) rfl ?_); refine box_event rfl (N := 1) rfl (cs := #[.int .i64 a0_0, .int .i64 a0_1, .float .f64 a0_2, .string a0_3]) (t := 50) gs ?_; intro gb569 hg w9 hbox hb; have BK569 := am (hbox); have GW569 := gw hg HB; have GE569 := gw hg HB; replace HB := sb HB hb; clear hb hbox hg; obtain ⟨Z10_0, Z10_1, Z10_2, Z10_3, Y10_0, Y10_1, Y10_2, Y10_3⟩ := bq4 BK569))
        go_ret
        exact ⟨er, bl HB⟩
    · rw [if_neg c5] at H
      have c5b0 : (a0_0 == 1) = false := beq_eq_false_iff_ne.mpr c5
      have c5b1 : (a0_0 != 1) = true := bne_iff_ne.mpr c5
      obtain rfl := Option.some.inj H
      go_enter Tryd.func119, Tryd.ntmps119
      go_wp2_with (first | ((with_reducible refine gate_dst (N := 1) rfl ?_); refine box_event rfl (N := 1) rfl (cs := #[.int .i64 a0_0, .int .i64 a0_1, .float .f64 a0_2, .string a0_3]) (t := 50) gs ?_; intro gb569 hg w11 hbox hb; have BK569 := am (hbox); have GW569 := gw hg HB; have GE569 := gw hg HB; replace HB := sb HB hb; clear hb hbox hg; obtain ⟨Z12_0, Z12_1, Z12_2, Z12_3, Y12_0, Y12_1, Y12_2, Y12_3⟩ := bq4 BK569))
      go_ret
      exact ⟨er, bl HB⟩
def row_putVarint.l0 : Nat → List Int → Int → Option (List Int)
  | 0, _, _ => none
  | k + 1, x0, x1 => if x1 ≥ 128 then (if x0.length < 140737488355328 then (row_putVarint.l0 k (x0 ++ [Go.bits .or .u8 ((x1) % 256) 128]) (x1 / 128)) else (none)) else (if x0.length < 140737488355328 then (some (x0 ++ [(x1) % 256])) else (none))
def row_putVarint.f (k : Nat) (l0 : List Int) (a1 : Int) : Option (List Int) := row_putVarint.l0 k l0 a1
set_option maxHeartbeats 8000000 in
set_option maxRecDepth 100000 in
theorem row_putVarint.calls (k : Nat) (P0_ : Nat → Prop) (u9000_ : Value) (l0 : List Int) (a1 : Int) (r : List Int) (w0 w : World) (hB : Below w0.heap.size w0 w) (ho0 : Kd.R (Kd.int .u8) 5 w w0.heap.size P0_ u9000_ l0) (h : row_putVarint.f k l0 a1 = some r) :
    Calls Tryd.prog 89 #[u9000_, .int .u64 a1] w fun e w' => ∃ v0_ : Value, e = .returned (v0_) ∧ Kd.R (Kd.int .u8) 5 w' w0.heap.size (fun k_ => (P0_ k_ ∨ w.heap.size ≤ k_)) v0_ r ∧ Below w0.heap.size w0 w' ∧ Kept w w' (fun k_ => P0_ k_) := by
  have HO0 := am (show Kd.R (Kd.int .u8) 5 w w0.heap.size (fun k_ => (P0_ k_ ∨ w.heap.size ≤ k_)) u9000_ l0 from Kd.R_mono ho0 (fun k_ hk => (.inl hk)))
  have HK := am (Kept.refl w (fun k_ => P0_ k_))
  have HW0 := am hB.size
  have HB := am hB
  clear hB
  have H : (row_putVarint.l0 k l0 a1) = some r := h
  clear h
  have H' := am H
  clear H
  go_enter Tryd.func89, Tryd.ntmps89
  go_wp2
  go_loopg [0, 1] k (fun kq v0 v1 w' => ∃ (x0_1 : List Int) (x1_1 : Int), v1 = .int .u64 x1_1 ∧ Aside0 (row_putVarint.l0 kq x0_1 x1_1 = some r) ∧ Aside0 (kq ≤ k) ∧ Aside0 (Kd.R (Kd.int .u8) 5 w' w0.heap.size (fun k_ => (P0_ k_ ∨ w.heap.size ≤ k_)) v0 x0_1) ∧ Aside0 (Kept w w' (fun k_ => P0_ k_)) ∧ Aside0 (Below w0.heap.size w0 w'))
  case atStart => exact ⟨(l0), (a1), eb, H', ⟨Nat.le_refl _⟩, ⟨Kd.rr HO0.out⟩, ⟨by repeat (first | (with_reducible first | exact HK.out | apply Kept.alloc | apply Kept.drewN | apply Kept.drew) | exact HK.out)⟩, ⟨bl HB⟩⟩
  case round =>
    clear H'
    try clear p2
    obtain ⟨x0_1, x1_1, rfl, HA, HK1, HO_0, HK, HB⟩ := hrel
    cases gk with
    | zero => exact absurd HA.out (by simp [row_putVarint.l0])
    | succ k1 =>
      have H := HA.out
      clear HA
      simp only [row_putVarint.l0] at H
      by_cases c3 : x1_1 ≥ 128
      · rw [if_pos c3] at H
        have c3b0 : decide (128 ≤ x1_1) = true := decide_eq_true c3
        clear c3
        by_cases c4 : x0_1.length < 140737488355328
        · rw [if_pos c4] at H
          have LMc4 := am c4
          clear c4
          obtain ⟨y570, hy570⟩ : ∃ y_ : List Int, y_ = (x0_1 ++ [Go.bits .or .u8 ((x1_1) % 256) 128]) := ⟨_, rfl⟩
          replace H : (row_putVarint.l0 k1 y570 (x1_1 / 128)) = some r := by first | (rw [hy570]; with_reducible exact H) | (have H2_ := (Option.bind_some _ _).symm.trans H; rw [hy570]; with_reducible exact H2_) | (have H2_ := (Option.bind_some _ _).symm.trans H; with_reducible exact H2_) | with_reducible exact H | (rw [hy570]; exact H) | exact H
          have Ny570 := am hy570
          clear hy570
          have H' := am H
          clear H
          go_wp2_with (first | ((with_reducible refine gate_builtin (b := .append) (xs := #[.tmp 7, .tmp 11]) rfl ?_); at_builtin; refine Kd.R_append (Kd.int .u8) (w0 := w0) w0.heap.size rfl (.tmp 7) (.tmp 11) 80 5 (.int .u8 0) 1 rfl Tryd.underlying80 info5 rfl (by decide) (by omega) u0 x0_1 (Go.bits .or .u8 ((x1_1) % 256) 128) [.int .u8 (Go.bits .or .u8 ((x1_1) % 256) 128)] (fun k_ => (P0_ k_ ∨ w.heap.size ≤ k_)) (fun _ => False) rfl rfl ?aP (fun _ hk => hk.elim) ?aF ?aO ?aB ?aS ?aL ?_; (case aP => exact rfl); (case aB => exact (bl HB)); (case aF => exact (fun k_ hk => (.inr (Nat.le_trans (by first | exact HK.out.1 | exact (show Kept w _ (fun k_ => P0_ k_) from by repeat (first | (with_reducible first | exact HK.out | apply Kept.alloc | apply Kept.drewN | apply Kept.drew) | exact HK.out)).1) hk)))); (case aO => exact (Kd.rr HO_0.out)); (case aS => exact (below_size (bl HB))); (case aL => have := LMc4.out; omega); intro v571 w5 ho hb hg hat; rw [← Ny570.out] at ho; have n0_ := am (hb); have n1_ := am (Kept.of_grown (S := (fun k_ => P0_ k_)) hg (by repeat (first | (with_reducible first | exact HK.out | apply Kept.alloc | apply Kept.drewN | apply Kept.drew) | exact HK.out)) (fun k_ e_ => (HO_0.out.1 k_ e_))); have n2_ := am (ho); clear HB; clear HK; clear HO_0; have HB := n0_; have HK := n1_; have HO572 := n2_; clear n0_ n1_ n2_; clear ho hb hg hat))
          go_roundg k1
          case measure => have := HK1.out; omega
          case rel => exact ⟨(y570), (x1_1 / 128), eb, H', ⟨by have := HK1.out; omega⟩, ⟨Kd.rr HO572.out⟩, ⟨by repeat (first | (with_reducible first | exact HK.out | apply Kept.alloc | apply Kept.drewN | apply Kept.drew) | exact HK.out)⟩, ⟨bl HB⟩⟩
        · rw [if_neg c4] at H
          exact absurd H (by simp)
      · rw [if_neg c3] at H
        have c3b0 : decide (128 ≤ x1_1) = false := decide_eq_false c3
        clear c3
        by_cases c6 : x0_1.length < 140737488355328
        · rw [if_pos c6] at H
          have LMc6 := am c6
          clear c6
          obtain ⟨y573, hy573⟩ : ∃ y_ : List Int, y_ = (x0_1 ++ [(x1_1) % 256]) := ⟨_, rfl⟩
          replace H : (some y573) = some r := by first | (rw [hy573]; with_reducible exact H) | (have H2_ := (Option.bind_some _ _).symm.trans H; rw [hy573]; with_reducible exact H2_) | (have H2_ := (Option.bind_some _ _).symm.trans H; with_reducible exact H2_) | with_reducible exact H | (rw [hy573]; exact H) | exact H
          have Ny573 := am hy573
          clear hy573
          obtain rfl := Option.some.inj H
          go_wp2_with (first | ((with_reducible refine gate_builtin (b := .append) (xs := #[.tmp 15, .tmp 18]) rfl ?_); at_builtin; refine Kd.R_append (Kd.int .u8) (w0 := w0) w0.heap.size rfl (.tmp 15) (.tmp 18) 80 5 (.int .u8 0) 1 rfl Tryd.underlying80 info5 rfl (by decide) (by omega) u0 x0_1 ((x1_1) % 256) [.int .u8 ((x1_1) % 256)] (fun k_ => (P0_ k_ ∨ w.heap.size ≤ k_)) (fun _ => False) rfl rfl ?aP (fun _ hk => hk.elim) ?aF ?aO ?aB ?aS ?aL ?_; (case aP => exact rfl); (case aB => exact (bl HB)); (case aF => exact (fun k_ hk => (.inr (Nat.le_trans (by first | exact HK.out.1 | exact (show Kept w _ (fun k_ => P0_ k_) from by repeat (first | (with_reducible first | exact HK.out | apply Kept.alloc | apply Kept.drewN | apply Kept.drew) | exact HK.out)).1) hk)))); (case aO => exact (Kd.rr HO_0.out)); (case aS => exact (below_size (bl HB))); (case aL => have := LMc6.out; omega); intro v574 w7 ho hb hg hat; rw [← Ny573.out] at ho; have n0_ := am (hb); have n1_ := am (Kept.of_grown (S := (fun k_ => P0_ k_)) hg (by repeat (first | (with_reducible first | exact HK.out | apply Kept.alloc | apply Kept.drewN | apply Kept.drew) | exact HK.out)) (fun k_ e_ => (HO_0.out.1 k_ e_))); have n2_ := am (ho); clear HB; clear HK; clear HO_0; have HB := n0_; have HK := n1_; have HO575 := n2_; clear n0_ n1_ n2_; clear ho hb hg hat))
          go_ret
          exact ⟨_, er, Kd.rr HO575.out, bl HB, by repeat (first | (with_reducible first | exact HK.out | apply Kept.alloc | apply Kept.drewN | apply Kept.drew) | exact HK.out)⟩
        · rw [if_neg c6] at H
          exact absurd H (by simp)
def row_zigzag.f (a0 : Int) : Option (Int) := some (Go.bits .xor .u64 (IntKind.u64.wrap ((IntKind.u64.wrap (a0)) * 2)) (IntKind.u64.wrap (a0 / 9223372036854775808)))
set_option maxHeartbeats 8000000 in
set_option maxRecDepth 100000 in
theorem row_zigzag.calls (a0 : Int) (r : Int) (w : World) (h : row_zigzag.f a0 = some r) :
    Calls Tryd.prog 158 #[.int .i64 a0] w fun e w' => e = .returned (.int .u64 r) ∧ Drawn0 w w' := by
  have H : (some (Go.bits .xor .u64 (IntKind.u64.wrap ((IntKind.u64.wrap (a0)) * 2)) (IntKind.u64.wrap (a0 / 9223372036854775808)))) = some r := h
  clear h
  obtain rfl := Option.some.inj H
  go_enter Tryd.func158, Tryd.ntmps158
  go_wp2
  go_ret
  exact ⟨eb, by repeat (first | exact Drawn0.refl _ | apply Drawn0.step)⟩
def row_putLow.l0 : Nat → List Int → Int → Int → Option (List Int)
  | 0, _, _, _ => none
  | k + 1, x0, x1, x6 => if x6 < 8 then (if 0 ≤ (wrap64 (8 * x6)) then (if x0.length < 140737488355328 then (row_putLow.l0 k (x0 ++ [(shr .u64 x1 (wrap64 (8 * x6))) % 256]) x1 (wrap64 (x6 + 1))) else (none)) else (none)) else (some x0)
def row_putLow.f (k : Nat) (l0 : List Int) (a1 : Int) : Option (List Int) := row_putLow.l0 k l0 a1 0
set_option maxHeartbeats 8000000 in
set_option maxRecDepth 100000 in
theorem row_putLow.calls (k : Nat) (P0_ : Nat → Prop) (u9000_ : Value) (l0 : List Int) (a1 : Int) (r : List Int) (w0 w : World) (hB : Below w0.heap.size w0 w) (ho0 : Kd.R (Kd.int .u8) 5 w w0.heap.size P0_ u9000_ l0) (h : row_putLow.f k l0 a1 = some r) :
    Calls Tryd.prog 159 #[u9000_, .int .u64 a1] w fun e w' => ∃ v0_ : Value, e = .returned (v0_) ∧ Kd.R (Kd.int .u8) 5 w' w0.heap.size (fun k_ => (P0_ k_ ∨ w.heap.size ≤ k_)) v0_ r ∧ Below w0.heap.size w0 w' ∧ Kept w w' (fun k_ => P0_ k_) := by
  have HO0 := am (show Kd.R (Kd.int .u8) 5 w w0.heap.size (fun k_ => (P0_ k_ ∨ w.heap.size ≤ k_)) u9000_ l0 from Kd.R_mono ho0 (fun k_ hk => (.inl hk)))
  have HK := am (Kept.refl w (fun k_ => P0_ k_))
  have HW0 := am hB.size
  have HB := am hB
  clear hB
  have H : (row_putLow.l0 k l0 a1 0) = some r := h
  clear h
  have H' := am H
  clear H
  go_enter Tryd.func159, Tryd.ntmps159
  go_wp2
  go_loopg [0, 6] k (fun kq v0 v6 w' => ∃ (x0_1 : List Int) (x6_1 : Int), v6 = .int .i64 x6_1 ∧ Aside0 (row_putLow.l0 kq x0_1 a1 x6_1 = some r) ∧ Aside0 (kq ≤ k) ∧ Aside0 (Kd.R (Kd.int .u8) 5 w' w0.heap.size (fun k_ => (P0_ k_ ∨ w.heap.size ≤ k_)) v0 x0_1) ∧ Aside0 (Kept w w' (fun k_ => P0_ k_)) ∧ Aside0 (Below w0.heap.size w0 w'))
  case atStart => exact ⟨(l0), (0), eb, H', ⟨Nat.le_refl _⟩, ⟨Kd.rr HO0.out⟩, ⟨by repeat (first | (with_reducible first | exact HK.out | apply Kept.alloc | apply Kept.drewN | apply Kept.drew) | exact HK.out)⟩, ⟨bl HB⟩⟩
  case round =>
    clear H'
    try clear c1
    try clear p2
    obtain ⟨x0_1, x6_1, rfl, HA, HK1, HO_0, HK, HB⟩ := hrel
    cases gk with
    | zero => exact absurd HA.out (by simp [row_putLow.l0])
    | succ k1 =>
      have H := HA.out
      clear HA
      simp only [row_putLow.l0] at H
      by_cases c3 : x6_1 < 8
      · rw [if_pos c3] at H
        have c3b0 : decide (x6_1 < 8) = true := decide_eq_true c3
        clear c3
        obtain ⟨ji4, hji4⟩ : ∃ j_ : Int, (wrap64 (8 * x6_1)) = j_ := ⟨_, rfl⟩
        replace H : (if 0 ≤ (ji4) then (if x0_1.length < 140737488355328 then (row_putLow.l0 k1 (x0_1 ++ [(shr .u64 a1 (ji4)) % 256]) a1 (wrap64 (x6_1 + 1))) else (none)) else (none)) = some r := by first | (rw [hji4] at H; exact H) | (simp only [hji4] at H ⊢; exact H)
        have hji4w : (IntKind.i64.wrap (8 * x6_1)) = ji4 := (i64_w _).trans hji4
        by_cases c5 : 0 ≤ (ji4)
        · rw [if_pos c5] at H
          have c5b0 := eq_true c5
          have c5b1 : decide (0 ≤ (ji4)) = true := decide_eq_true c5
          clear c5
          obtain ⟨ji6, hji6⟩ : ∃ j_ : Int, (shr .u64 a1 (ji4)) = j_ := ⟨_, rfl⟩
          replace H : (if x0_1.length < 140737488355328 then (row_putLow.l0 k1 (x0_1 ++ [(ji6) % 256]) a1 (wrap64 (x6_1 + 1))) else (none)) = some r := by first | (rw [hji6] at H; exact H) | (simp only [hji6] at H ⊢; exact H)
          have hji6_ : (a1 / 2 ^ min (ji4).toNat 64) = ji6 := hji6
          have hji6z : (ji4) ≤ 64 → (a1 / 2 ^ (ji4).toNat) = ji6 := shr_small hji6
          by_cases c7 : x0_1.length < 140737488355328
          · rw [if_pos c7] at H
            have LMc7 := am c7
            clear c7
            obtain ⟨y576, hy576⟩ : ∃ y_ : List Int, y_ = (x0_1 ++ [(ji6) % 256]) := ⟨_, rfl⟩
            replace H : (row_putLow.l0 k1 y576 a1 (wrap64 (x6_1 + 1))) = some r := by first | (rw [hy576]; with_reducible exact H) | (have H2_ := (Option.bind_some _ _).symm.trans H; rw [hy576]; with_reducible exact H2_) | (have H2_ := (Option.bind_some _ _).symm.trans H; with_reducible exact H2_) | with_reducible exact H | (rw [hy576]; exact H) | exact H
            have Ny576 := am hy576
            clear hy576
            have H' := am H
            clear H
            go_wp2_with (first | ((with_reducible refine gate_builtin (b := .append) (xs := #[.tmp 9, .tmp 15]) rfl ?_); at_builtin; refine Kd.R_append (Kd.int .u8) (w0 := w0) w0.heap.size rfl (.tmp 9) (.tmp 15) 80 5 (.int .u8 0) 1 rfl Tryd.underlying80 info5 rfl (by decide) (by omega) u0 x0_1 ((ji6) % 256) [.int .u8 ((ji6) % 256)] (fun k_ => (P0_ k_ ∨ w.heap.size ≤ k_)) (fun _ => False) rfl rfl ?aP (fun _ hk => hk.elim) ?aF ?aO ?aB ?aS ?aL ?_; (case aP => exact rfl); (case aB => exact (bl HB)); (case aF => exact (fun k_ hk => (.inr (Nat.le_trans (by first | exact HK.out.1 | exact (show Kept w _ (fun k_ => P0_ k_) from by repeat (first | (with_reducible first | exact HK.out | apply Kept.alloc | apply Kept.drewN | apply Kept.drew) | exact HK.out)).1) hk)))); (case aO => exact (Kd.rr HO_0.out)); (case aS => exact (below_size (bl HB))); (case aL => have := LMc7.out; omega); intro v577 w8 ho hb hg hat; rw [← Ny576.out] at ho; have n0_ := am (hb); have n1_ := am (Kept.of_grown (S := (fun k_ => P0_ k_)) hg (by repeat (first | (with_reducible first | exact HK.out | apply Kept.alloc | apply Kept.drewN | apply Kept.drew) | exact HK.out)) (fun k_ e_ => (HO_0.out.1 k_ e_))); have n2_ := am (ho); clear HB; clear HK; clear HO_0; have HB := n0_; have HK := n1_; have HO578 := n2_; clear n0_ n1_ n2_; clear ho hb hg hat))
            go_roundg k1
            case measure => have := HK1.out; omega
            case rel => exact ⟨(y576), (wrap64 (x6_1 + 1)), eb, H', ⟨by have := HK1.out; omega⟩, ⟨Kd.rr HO578.out⟩, ⟨by repeat (first | (with_reducible first | exact HK.out | apply Kept.alloc | apply Kept.drewN | apply Kept.drew) | exact HK.out)⟩, ⟨bl HB⟩⟩
          · rw [if_neg c7] at H
            exact absurd H (by simp)
        · rw [if_neg c5] at H
          exact absurd H (by simp)
      · rw [if_neg c3] at H
        have c3b0 : decide (x6_1 < 8) = false := decide_eq_false c3
        clear c3
        obtain rfl := Option.some.inj H
        go_wp2
        go_ret
        exact ⟨_, er, Kd.rr HO_0.out, bl HB, by repeat (first | (with_reducible first | exact HK.out | apply Kept.alloc | apply Kept.drewN | apply Kept.drew) | exact HK.out)⟩
def row_put.f (k : Nat) (l0 : List Int) (a1_0 : Int) (a1_1 : Int) (a1_2 : Nat) (a1_3 : ByteArray) : Option (List Int) := if a1_0 = 2 then ((row_zigzag.f a1_1).bind fun t580 => ((row_putVarint.f k l0 t580).bind fun t581 => (some t581))) else (if a1_0 = 3 then ((row_putLow.f k l0 ((a1_2 : Nat) : Int)).bind fun t584 => (some t584)) else (if a1_0 = 4 then ((row_putVarint.f k l0 (IntKind.u64.wrap ((a1_3.size : Int)))).bind fun t587 => (if t587.length + a1_3.size < 140737488355328 then (some (t587 ++ bytesOf a1_3)) else (none))) else (if a1_0 = 5 then ((row_putVarint.f k l0 (IntKind.u64.wrap ((a1_3.size : Int)))).bind fun t593 => (if t593.length + a1_3.size < 140737488355328 then (some (t593 ++ bytesOf a1_3)) else (none))) else (some l0))))
def row_put.T8 : Bool × List (List Nat × List Nat) := (true, [([], []), ([], []), ([1], [1]), ([2], [2]), ([3], [3]), ([0, 4], [0, 4]), ([], []), ([6], [6]), ([5, 7, 5], [5, 7]), ([8, 8, 0, 1, 2, 3, 4, 5, 6, 7, 8], [8])])
def row_put.B8 : List Nat := [0, 0, 2, 6, 14, 31, 0, 64, 255, 511]
theorem row_put.tab8 : rtab .any (opsOf Tryd.f120 8) = row_put.T8 := by kernel_rfl
theorem row_put.bits8 : waitsOk row_put.T8.2 row_put.B8 = true := by kernel_rfl
set_option maxHeartbeats 8000000 in
set_option maxRecDepth 100000 in
theorem row_put.calls (k : Nat) (P0_ : Nat → Prop) (u9000_ : Value) (l0 : List Int) (a1_0 : Int) (a1_1 : Int) (a1_2 : Nat) (a1_3 : ByteArray) (r : List Int) (w0 w : World) (hB : Below w0.heap.size w0 w) (ho0 : Kd.R (Kd.int .u8) 5 w w0.heap.size P0_ u9000_ l0) (h : row_put.f k l0 a1_0 a1_1 a1_2 a1_3 = some r) :
    Calls Tryd.prog 120 #[u9000_, .agg #[.int .i64 a1_0, .int .i64 a1_1, .float .f64 a1_2, .string a1_3]] w fun e w' => ∃ v0_ : Value, e = .returned (v0_) ∧ Kd.R (Kd.int .u8) 5 w' w0.heap.size (fun k_ => (P0_ k_ ∨ w.heap.size ≤ k_)) v0_ r ∧ Below w0.heap.size w0 w' ∧ Kept w w' (fun k_ => P0_ k_) := by
  have hu50 := Tryd.underlying50
  have HO0 := am (show Kd.R (Kd.int .u8) 5 w w0.heap.size (fun k_ => (P0_ k_ ∨ w.heap.size ≤ k_)) u9000_ l0 from Kd.R_mono ho0 (fun k_ hk => (.inl hk)))
  have HK := am (Kept.refl w (fun k_ => P0_ k_))
  have HW0 := am hB.size
  have HB := am hB
  clear hB
  have H : (if a1_0 = 2 then ((row_zigzag.f a1_1).bind fun t580 => ((row_putVarint.f k l0 t580).bind fun t581 => (some t581))) else (if a1_0 = 3 then ((row_putLow.f k l0 ((a1_2 : Nat) : Int)).bind fun t584 => (some t584)) else (if a1_0 = 4 then ((row_putVarint.f k l0 (IntKind.u64.wrap ((a1_3.size : Int)))).bind fun t587 => (if t587.length + a1_3.size < 140737488355328 then (some (t587 ++ bytesOf a1_3)) else (none))) else (if a1_0 = 5 then ((row_putVarint.f k l0 (IntKind.u64.wrap ((a1_3.size : Int)))).bind fun t593 => (if t593.length + a1_3.size < 140737488355328 then (some (t593 ++ bytesOf a1_3)) else (none))) else (some l0))))) = some r := h
  clear h
  by_cases c3 : a1_0 = 2
  · rw [if_pos c3] at H
    have c3b0 : (a1_0 == 2) = true := beq_iff_eq.mpr c3
    have c3b1 : (a1_0 != 2) = false := bne_eq_false_iff_eq.mpr c3
    clear c3
    replace H := Option.bind_eq_some_iff.mp H
    obtain ⟨t580, A40, H⟩ := H
    replace H : ((row_putVarint.f k l0 t580).bind fun t581 => (some t581)) = some r := H
    have A4 := am A40
    clear A40
    replace H := Option.bind_eq_some_iff.mp H
    obtain ⟨t581, A50, H⟩ := H
    replace H : (some t581) = some r := H
    have A5 := am A50
    clear A50
    obtain rfl := Option.some.inj H
    go_enter Tryd.func120, Tryd.ntmps120
    go_wp2_with (first | ((with_reducible refine gate_dst (N := 3) rfl ?_); refine box_event rfl (N := 3) rfl (cs := #[.int .i64 a1_0, .int .i64 a1_1, .float .f64 a1_2, .string a1_3]) (t := 50) gs ?_; intro gb579 hg w6 hbox hb; have n0_ := am (Kd.R_below (Kd.rr HO0.out) hb); have n1_ := am (Kept.below (S := (fun k_ => P0_ k_)) (by repeat (first | (with_reducible first | exact HK.out | apply Kept.alloc | apply Kept.drewN | apply Kept.drew) | exact HK.out)) hb); have n2_ := sb HB hb; have n3_ := am (hbox); have n4_ := am ((by rw [hg]; exact (by first | exact HK.out.1 | exact (show Kept w _ (fun k_ => P0_ k_) from by repeat (first | (with_reducible first | exact HK.out | apply Kept.alloc | apply Kept.drewN | apply Kept.drew) | exact HK.out)).1) : w.heap.size ≤ gb579)); have n5_ := am ((by rw [hg]; exact (below_size (bl HB)) : w0.heap.size ≤ gb579)); clear HO0; clear HK; clear HB; have HO0 := n0_; have HK := n1_; have HB := n2_; have BK579 := n3_; have GW579 := n4_; have GE579 := n5_; clear n0_ n1_ n2_ n3_ n4_ n5_; clear hb hbox hg; obtain ⟨Z7_0, Z7_1, Z7_2, Z7_3, Y7_0, Y7_1, Y7_2, Y7_3⟩ := bq4 BK579) | ((with_reducible refine gate_callee (f := 158) rfl ?_); refine goesL_ (some 12) rfl rfl Tryd.func158 (by kernel_rfl) rfl #[.int .i64 a1_1] rfl ar ?_; (with_reducible refine (row_zigzag.calls a1_1 t580 _ A4.out).mono ?_); rintro e w' ⟨rfl, ⟨nd, rfl⟩⟩; refine ⟨_, rfl, ?_⟩; obtain ⟨Ao8, co8, eo8⟩ := Kd.R_slice HO0.out; subst eo8) | ((with_reducible refine gate_callee (f := 89) rfl ?_); refine goesL_ (some 13) rfl rfl Tryd.func89 (by kernel_rfl) rfl #[.slice Ao8 l0.length co8, .int .u64 t580] rfl ar ?_; (with_reducible refine (row_putVarint.calls k (fun k_ => some k_ = (.slice Ao8 l0.length co8 : Value).ownBlock) (.slice Ao8 l0.length co8) l0 t580 t581 w0 _ ?side1 ?side2 A5.out).mono ?_); (case side1 => repeat (first | (with_reducible first | exact HB.out | apply below_alloc | apply pw_below_drewN | apply below_drew1 | refine below_set ?_ GE579.out) | exact HB.out)); (case side2 => exact Kd.R_tight rfl HO0.out); rintro e w9 ⟨v582, rfl, ho0, hb, hkp⟩; refine ⟨_, rfl, ?_⟩; have n0_ := am (blk_kept (bk BK579) hkp (fun hs_ => (fun e_ => (Kd.R_ne HO0.out BK579.out (by decide)) e_) hs_)); have n1_ := am (Kd.R_mono (ok' := fun k_ => (P0_ k_ ∨ w.heap.size ≤ k_)) ho0 (fun k_ hk_ => Or.elim hk_ (fun hs_ => (HO0.out.1 k_ (hs_).symm)) (fun hn_ => (.inr (Nat.le_trans (by first | exact HK.out.1 | exact (show Kept w _ (fun k_ => P0_ k_) from by repeat (first | (with_reducible first | exact HK.out | apply Kept.alloc | apply Kept.drewN | apply Kept.drew | refine Kept.setCell ?_ (.inr GW579.out) _) | exact HK.out)).1) hn_))))); have n2_ := am (Kept.then_ (S := (fun k_ => P0_ k_)) (by repeat (first | (with_reducible first | exact HK.out | apply Kept.alloc | apply Kept.drewN | apply Kept.drew | refine Kept.setCell ?_ (.inr GW579.out) _) | exact HK.out)) hkp (fun k_ hs_ => (fun e_ => (HO0.out.1 k_ e_.symm)) hs_)); have n3_ := am (hb); clear BK579; clear HK; clear HB; clear HO0; have BK579 := n0_; have HO583 := n1_; have HK := n2_; have HB := n3_; clear n0_ n1_ n2_ n3_; (try clear hb); (try clear hkp); (try clear ho0)))
    go_ret
    exact ⟨_, er, Kd.rr HO583.out, bl HB, by repeat (first | (with_reducible first | exact HK.out | apply Kept.alloc | apply Kept.drewN | apply Kept.drew | refine Kept.setCell ?_ (.inr GW579.out) _) | exact HK.out)⟩
  · rw [if_neg c3] at H
    have c3b0 : (a1_0 == 2) = false := beq_eq_false_iff_ne.mpr c3
    have c3b1 : (a1_0 != 2) = true := bne_iff_ne.mpr c3
    by_cases c10 : a1_0 = 3
    · rw [if_pos c10] at H
      have c10b0 : (a1_0 == 3) = true := beq_iff_eq.mpr c10
      have c10b1 : (a1_0 != 3) = false := bne_eq_false_iff_eq.mpr c10
      clear c10
      replace H := Option.bind_eq_some_iff.mp H
      obtain ⟨t584, A110, H⟩ := H
      replace H : (some t584) = some r := H
      have A11 := am A110
      clear A110
      obtain rfl := Option.some.inj H
      go_enter Tryd.func120, Tryd.ntmps120
      go_wp2_with (first | ((with_reducible refine gate_dst (N := 3) rfl ?_); refine box_event rfl (N := 3) rfl (cs := #[.int .i64 a1_0, .int .i64 a1_1, .float .f64 a1_2, .string a1_3]) (t := 50) gs ?_; intro gb579 hg w12 hbox hb; have n0_ := am (Kd.R_below (Kd.rr HO0.out) hb); have n1_ := am (Kept.below (S := (fun k_ => P0_ k_)) (by repeat (first | (with_reducible first | exact HK.out | apply Kept.alloc | apply Kept.drewN | apply Kept.drew) | exact HK.out)) hb); have n2_ := sb HB hb; have n3_ := am (hbox); have n4_ := am ((by rw [hg]; exact (by first | exact HK.out.1 | exact (show Kept w _ (fun k_ => P0_ k_) from by repeat (first | (with_reducible first | exact HK.out | apply Kept.alloc | apply Kept.drewN | apply Kept.drew) | exact HK.out)).1) : w.heap.size ≤ gb579)); have n5_ := am ((by rw [hg]; exact (below_size (bl HB)) : w0.heap.size ≤ gb579)); clear HO0; clear HK; clear HB; have HO0 := n0_; have HK := n1_; have HB := n2_; have BK579 := n3_; have GW579 := n4_; have GE579 := n5_; clear n0_ n1_ n2_ n3_ n4_ n5_; clear hb hbox hg; obtain ⟨Z13_0, Z13_1, Z13_2, Z13_3, Y13_0, Y13_1, Y13_2, Y13_3⟩ := bq4 BK579; obtain ⟨Ao14, co14, eo14⟩ := Kd.R_slice HO0.out; subst eo14) | ((with_reducible refine gate_callee (f := 159) rfl ?_); refine goesL_ (some 20) rfl rfl Tryd.func159 (by kernel_rfl) rfl #[.slice Ao14 l0.length co14, .int .u64 ((a1_2 : Nat) : Int)] rfl ar ?_; (with_reducible refine (row_putLow.calls k (fun k_ => some k_ = (.slice Ao14 l0.length co14 : Value).ownBlock) (.slice Ao14 l0.length co14) l0 ((a1_2 : Nat) : Int) t584 w0 _ ?side1 ?side2 A11.out).mono ?_); (case side1 => repeat (first | (with_reducible first | exact HB.out | apply below_alloc | apply pw_below_drewN | apply below_drew1 | refine below_set ?_ GE579.out) | exact HB.out)); (case side2 => exact Kd.R_tight rfl HO0.out); rintro e w15 ⟨v585, rfl, ho0, hb, hkp⟩; refine ⟨_, rfl, ?_⟩; have n0_ := am (blk_kept (bk BK579) hkp (fun hs_ => (fun e_ => (Kd.R_ne HO0.out BK579.out (by decide)) e_) hs_)); have n1_ := am (Kd.R_mono (ok' := fun k_ => (P0_ k_ ∨ w.heap.size ≤ k_)) ho0 (fun k_ hk_ => Or.elim hk_ (fun hs_ => (HO0.out.1 k_ (hs_).symm)) (fun hn_ => (.inr (Nat.le_trans (by first | exact HK.out.1 | exact (show Kept w _ (fun k_ => P0_ k_) from by repeat (first | (with_reducible first | exact HK.out | apply Kept.alloc | apply Kept.drewN | apply Kept.drew | refine Kept.setCell ?_ (.inr GW579.out) _) | exact HK.out)).1) hn_))))); have n2_ := am (Kept.then_ (S := (fun k_ => P0_ k_)) (by repeat (first | (with_reducible first | exact HK.out | apply Kept.alloc | apply Kept.drewN | apply Kept.drew | refine Kept.setCell ?_ (.inr GW579.out) _) | exact HK.out)) hkp (fun k_ hs_ => (fun e_ => (HO0.out.1 k_ e_.symm)) hs_)); have n3_ := am (hb); clear BK579; clear HK; clear HB; clear HO0; have BK579 := n0_; have HO586 := n1_; have HK := n2_; have HB := n3_; clear n0_ n1_ n2_ n3_; (try clear hb); (try clear hkp); (try clear ho0)))
      go_ret
      exact ⟨_, er, Kd.rr HO586.out, bl HB, by repeat (first | (with_reducible first | exact HK.out | apply Kept.alloc | apply Kept.drewN | apply Kept.drew | refine Kept.setCell ?_ (.inr GW579.out) _) | exact HK.out)⟩
    · rw [if_neg c10] at H
      have c10b0 : (a1_0 == 3) = false := beq_eq_false_iff_ne.mpr c10
      have c10b1 : (a1_0 != 3) = true := bne_iff_ne.mpr c10
      by_cases c16 : a1_0 = 4
      · rw [if_pos c16] at H
        have c16b0 : (a1_0 == 4) = true := beq_iff_eq.mpr c16
        have c16b1 : (a1_0 != 4) = false := bne_eq_false_iff_eq.mpr c16
        clear c16
        replace H := Option.bind_eq_some_iff.mp H
        obtain ⟨t587, A170, H⟩ := H
        replace H : (if t587.length + a1_3.size < 140737488355328 then (some (t587 ++ bytesOf a1_3)) else (none)) = some r := H
        have A17 := am A170
        clear A170
        by_cases c18 : t587.length + a1_3.size < 140737488355328
        · rw [if_pos c18] at H
          have LMc18 := am c18
          clear c18
          obtain ⟨y590, hy590⟩ : ∃ y_ : List Int, y_ = (t587 ++ bytesOf a1_3) := ⟨_, rfl⟩
          replace H : (some y590) = some r := by first | (rw [hy590]; with_reducible exact H) | (have H2_ := (Option.bind_some _ _).symm.trans H; rw [hy590]; with_reducible exact H2_) | (have H2_ := (Option.bind_some _ _).symm.trans H; with_reducible exact H2_) | with_reducible exact H | (rw [hy590]; exact H) | exact H
          have Ny590 := am hy590
          clear hy590
          obtain rfl := Option.some.inj H
          go_enter Tryd.func120, Tryd.ntmps120
          try go_wp2_with (first | ((with_reducible refine gate_dst (N := 3) rfl ?_); refine box_event rfl (N := 3) rfl (cs := #[.int .i64 a1_0, .int .i64 a1_1, .float .f64 a1_2, .string a1_3]) (t := 50) gs ?_; intro gb579 hg w19 hbox hb; have n0_ := am (Kd.R_below (Kd.rr HO0.out) hb); have n1_ := am (Kept.below (S := (fun k_ => P0_ k_)) (by repeat (first | (with_reducible first | exact HK.out | apply Kept.alloc | apply Kept.drewN | apply Kept.drew) | exact HK.out)) hb); have n2_ := sb HB hb; have n3_ := am (hbox); have n4_ := am ((by rw [hg]; exact (by first | exact HK.out.1 | exact (show Kept w _ (fun k_ => P0_ k_) from by repeat (first | (with_reducible first | exact HK.out | apply Kept.alloc | apply Kept.drewN | apply Kept.drew) | exact HK.out)).1) : w.heap.size ≤ gb579)); have n5_ := am ((by rw [hg]; exact (below_size (bl HB)) : w0.heap.size ≤ gb579)); clear HO0; clear HK; clear HB; have HO0 := n0_; have HK := n1_; have HB := n2_; have BK579 := n3_; have GW579 := n4_; have GE579 := n5_; clear n0_ n1_ n2_ n3_ n4_ n5_; clear hb hbox hg; obtain ⟨Z20_0, Z20_1, Z20_2, Z20_3, Y20_0, Y20_1, Y20_2, Y20_3⟩ := bq4 BK579))
          have n0_ := am (Kd.R_drew HO0.out)
          have n1_ := am (blk_drew BK579.out)
          have n2_ := am (Kept.drew HK.out)
          have n3_ := am (below_drew1 HB.out)
          clear HO0
          clear BK579
          clear HK
          clear HB
          have HO0 := n0_
          have BK579 := n1_
          have HK := n2_
          have HB := n3_
          clear n0_ n1_ n2_ n3_
          obtain ⟨Ao22, co22, eo22⟩ := Kd.R_slice HO0.out
          (first | subst eo22 | (injection eo22 with f1_ f2_ f3_; have f4_ := f1_.symm; have f5_ := f3_.symm; clear f1_ f2_ f3_; subst f4_; subst f5_))
          refine start_ (n := 10) (S := fun w' => w'.cell? ⟨gb579, 0, none⟩ = some (.int .i64 a1_0) ∧ w'.cell? ⟨gb579, 1, none⟩ = some (.int .i64 a1_1) ∧ w'.cell? ⟨gb579, 2, none⟩ = some (.float .f64 a1_2) ∧ w'.cell? ⟨gb579, 3, none⟩ = some (.string a1_3)) (ds := []) (bb 0 10) (by kernel_rfl) rfl rfl ⟨(blk_cell BK579.out 0).trans rfl, (blk_cell BK579.out 1).trans rfl, (blk_cell BK579.out 2).trans rfl, (blk_cell BK579.out 3).trans rfl⟩ (fun hHeld => ?_); refine with_tabW row_put.tab8 row_put.bits8 (fun HT_ HW_ => ?_)
          generalize w19.drew = w21 at HO0 BK579 HK HB hHeld ⊢
          refine pu HT_ 0 (some 24) (bb 1 10) ?_
          refine pu HT_ 1 (some 25) (bb 2 10) ?_
          refine pu HT_ 6 (some 30) (bs 10 67) ?_
          refine tk HT_ HW_ hHeld 2 (some 26) (bs 10 71) ?_
          refine pu HT_ 3 (some 27) (bs 10 79) ?_
          refine pu HT_ 4 (some 28) (bs 10 95) ?_
          refine tk HT_ HW_ hHeld 7 (some 31) (bs 10 223) ?_
          refine one_ (i := 5) (N := some 29) (bb 8 10) rfl rfl (one_of HT_.out (by kernel_rfl)) (by decide) (fun K hK => ?_)
          refine goes_ Tryd.func89 (by kernel_rfl) rfl #[.slice Ao22 l0.length co22, .int .u64 (IntKind.u64.wrap ((a1_3.size : Int)))] (by rfl) rfl rfl ar ?_
          with_reducible refine (row_putVarint.calls k (fun k_ => some k_ = (.slice Ao22 l0.length co22 : Value).ownBlock) (.slice Ao22 l0.length co22) l0 (IntKind.u64.wrap ((a1_3.size : Int))) t587 w0 _ ?side1 ?side2 A17.out).mono ?_
          (case side1 => repeat (first | (with_reducible first | exact HB.out | apply below_alloc | apply pw_below_drewN | apply below_drew1 | refine below_set ?_ GE579.out) | exact HB.out))
          (case side2 => exact Kd.R_tight rfl HO0.out)
          rintro e w23 ⟨v588, rfl, ho0, hb, hkp⟩
          refine ⟨_, rfl, ?_⟩
          have n0_ := am (blk_kept (bk BK579) hkp (fun hs_ => (fun e_ => (Kd.R_ne HO0.out BK579.out (by decide)) e_) hs_))
          have n1_ := am (Kd.R_mono (ok' := fun k_ => (P0_ k_ ∨ w.heap.size ≤ k_)) ho0 (fun k_ hk_ => Or.elim hk_ (fun hs_ => (HO0.out.1 k_ (hs_).symm)) (fun hn_ => (.inr (Nat.le_trans (by first | exact HK.out.1 | exact (show Kept w _ (fun k_ => P0_ k_) from by repeat (first | (with_reducible first | exact HK.out | apply Kept.alloc | apply Kept.drewN | apply Kept.drew | refine Kept.setCell ?_ (.inr GW579.out) _) | exact HK.out)).1) hn_)))))
          have n2_ := am (Kept.then_ (S := (fun k_ => P0_ k_)) (by repeat (first | (with_reducible first | exact HK.out | apply Kept.alloc | apply Kept.drewN | apply Kept.drew | refine Kept.setCell ?_ (.inr GW579.out) _) | exact HK.out)) hkp (fun k_ hs_ => (fun e_ => (HO0.out.1 k_ e_.symm)) hs_))
          have n3_ := am (hb)
          clear BK579
          clear HK
          clear HB
          clear HO0
          have BK579 := n0_
          have HO589 := n1_
          have HK := n2_
          have HB := n3_
          clear n0_ n1_ n2_ n3_
          (try clear hb)
          (try clear hkp)
          (try clear ho0)
          refine hK.out _ _ ⟨(blk_cell BK579.out 0).trans rfl, (blk_cell BK579.out 1).trans rfl, (blk_cell BK579.out 2).trans rfl, (blk_cell BK579.out 3).trans rfl⟩ (fun hHeld => ?_)
          clear hK K
          refine norm_ (a' := ?_) ?_ ?_
          rotate_left
          · show Act.put _ (some 29) _ = _
            simp only [Act.put, List.setIfInBounds_toArray, List.set_cons_zero, List.set_cons_succ, i64_w, i32_w]
            rfl
          refine one_ (i := 8) (N := some 32) (bb 9 10) rfl rfl (one_of HT_.out (by kernel_rfl)) (by decide) (fun K hK => ?_)
          refine Kd.R_append_str_step (w0 := w0) w0.heap.size (by rfl) (.tmp 29) _ 80 9 5 rfl Tryd.underlying80 Tryd.underlying9 info5 v588 t587 a1_3 (fun k_ => (P0_ k_ ∨ w.heap.size ≤ k_)) rfl rfl ?aF ?aO ?aB ?aS ?aL ?_
          (case aB => exact (bl HB))
          (case aF => exact (fun k_ hk => (.inr (Nat.le_trans (by first | exact HK.out.1 | exact (show Kept w _ (fun k_ => P0_ k_) from by repeat (first | (with_reducible first | exact HK.out | apply Kept.alloc | apply Kept.drewN | apply Kept.drew | refine Kept.setCell ?_ (.inr GW579.out) _) | exact HK.out)).1) hk))))
          (case aO => exact (Kd.rr HO589.out))
          (case aS => exact (below_size (bl HB)))
          (case aL => have := LMc18.out; omega)
          intro v591 w24 ho hb hg hat
          rw [← Ny590.out] at ho
          have n0_ := am (blk_grown (g := gb579) (o := .cells #[.int .i64 a1_0, .int .i64 a1_1, .float .f64 a1_2, .string a1_3] 50 (0, 0)) (bk BK579) hg (Kd.R_ne HO589.out BK579.out (by decide)))
          have n1_ := am (hb)
          have n2_ := am (Kept.of_grown (S := (fun k_ => P0_ k_)) hg (by repeat (first | (with_reducible first | exact HK.out | apply Kept.alloc | apply Kept.drewN | apply Kept.drew | refine Kept.setCell ?_ (.inr GW579.out) _) | exact HK.out)) (fun k_ e_ => (HO589.out.1 k_ e_)))
          have n3_ := am (ho)
          clear BK579
          clear HB
          clear HK
          clear HO589
          have BK579 := n0_
          have HB := n1_
          have HK := n2_
          have HO592 := n3_
          clear n0_ n1_ n2_ n3_
          clear ho hb hg hat
          refine hK.out _ _ ⟨(blk_cell BK579.out 0).trans rfl, (blk_cell BK579.out 1).trans rfl, (blk_cell BK579.out 2).trans rfl, (blk_cell BK579.out 3).trans rfl⟩ (fun hHeld => ?_)
          clear hK K
          refine norm_ (a' := ?_) ?_ ?_
          rotate_left
          · show Act.put _ (some 32) _ = _
            simp only [Act.put, List.setIfInBounds_toArray, List.set_cons_zero, List.set_cons_succ, i64_w, i32_w]
            rfl
          refine pu HT_ 9 (some 4) (bb 10 10) ?_
          refine done_ (done_of HT_.out (by kernel_rfl)) ?_
          try go_wp2
          go_ret
          exact ⟨_, er, Kd.rr HO592.out, bl HB, by repeat (first | (with_reducible first | exact HK.out | apply Kept.alloc | apply Kept.drewN | apply Kept.drew | refine Kept.setCell ?_ (.inr GW579.out) _) | exact HK.out)⟩
        · rw [if_neg c18] at H
          exact absurd H (by simp)
      · rw [if_neg c16] at H
        have c16b0 : (a1_0 == 4) = false := beq_eq_false_iff_ne.mpr c16
        have c16b1 : (a1_0 != 4) = true := bne_iff_ne.mpr c16
        by_cases c25 : a1_0 = 5
        · rw [if_pos c25] at H
          have c25b0 : (a1_0 == 5) = true := beq_iff_eq.mpr c25
          have c25b1 : (a1_0 != 5) = false := bne_eq_false_iff_eq.mpr c25
          clear c25
          replace H := Option.bind_eq_some_iff.mp H
          obtain ⟨t593, A260, H⟩ := H
          replace H : (if t593.length + a1_3.size < 140737488355328 then (some (t593 ++ bytesOf a1_3)) else (none)) = some r := H
          have A26 := am A260
          clear A260
          by_cases c27 : t593.length + a1_3.size < 140737488355328
          · rw [if_pos c27] at H
            have LMc27 := am c27
            clear c27
            obtain ⟨y596, hy596⟩ : ∃ y_ : List Int, y_ = (t593 ++ bytesOf a1_3) := ⟨_, rfl⟩
            replace H : (some y596) = some r := by first | (rw [hy596]; with_reducible exact H) | (have H2_ := (Option.bind_some _ _).symm.trans H; rw [hy596]; with_reducible exact H2_) | (have H2_ := (Option.bind_some _ _).symm.trans H; with_reducible exact H2_) | with_reducible exact H | (rw [hy596]; exact H) | exact H
            have Ny596 := am hy596
            clear hy596
            obtain rfl := Option.some.inj H
            go_enter Tryd.func120, Tryd.ntmps120
            try go_wp2_with (first | ((with_reducible refine gate_dst (N := 3) rfl ?_); refine box_event rfl (N := 3) rfl (cs := #[.int .i64 a1_0, .int .i64 a1_1, .float .f64 a1_2, .string a1_3]) (t := 50) gs ?_; intro gb579 hg w28 hbox hb; have n0_ := am (Kd.R_below (Kd.rr HO0.out) hb); have n1_ := am (Kept.below (S := (fun k_ => P0_ k_)) (by repeat (first | (with_reducible first | exact HK.out | apply Kept.alloc | apply Kept.drewN | apply Kept.drew) | exact HK.out)) hb); have n2_ := sb HB hb; have n3_ := am (hbox); have n4_ := am ((by rw [hg]; exact (by first | exact HK.out.1 | exact (show Kept w _ (fun k_ => P0_ k_) from by repeat (first | (with_reducible first | exact HK.out | apply Kept.alloc | apply Kept.drewN | apply Kept.drew) | exact HK.out)).1) : w.heap.size ≤ gb579)); have n5_ := am ((by rw [hg]; exact (below_size (bl HB)) : w0.heap.size ≤ gb579)); clear HO0; clear HK; clear HB; have HO0 := n0_; have HK := n1_; have HB := n2_; have BK579 := n3_; have GW579 := n4_; have GE579 := n5_; clear n0_ n1_ n2_ n3_ n4_ n5_; clear hb hbox hg; obtain ⟨Z29_0, Z29_1, Z29_2, Z29_3, Y29_0, Y29_1, Y29_2, Y29_3⟩ := bq4 BK579))
            have n0_ := am (Kd.R_drew HO0.out)
            have n1_ := am (blk_drew BK579.out)
            have n2_ := am (Kept.drew HK.out)
            have n3_ := am (below_drew1 HB.out)
            clear HO0
            clear BK579
            clear HK
            clear HB
            have HO0 := n0_
            have BK579 := n1_
            have HK := n2_
            have HB := n3_
            clear n0_ n1_ n2_ n3_
            obtain ⟨Ao31, co31, eo31⟩ := Kd.R_slice HO0.out
            (first | subst eo31 | (injection eo31 with f1_ f2_ f3_; have f4_ := f1_.symm; have f5_ := f3_.symm; clear f1_ f2_ f3_; subst f4_; subst f5_))
            refine start_ (n := 10) (S := fun w' => w'.cell? ⟨gb579, 0, none⟩ = some (.int .i64 a1_0) ∧ w'.cell? ⟨gb579, 1, none⟩ = some (.int .i64 a1_1) ∧ w'.cell? ⟨gb579, 2, none⟩ = some (.float .f64 a1_2) ∧ w'.cell? ⟨gb579, 3, none⟩ = some (.string a1_3)) (ds := []) (bb 0 10) (by kernel_rfl) rfl rfl ⟨(blk_cell BK579.out 0).trans rfl, (blk_cell BK579.out 1).trans rfl, (blk_cell BK579.out 2).trans rfl, (blk_cell BK579.out 3).trans rfl⟩ (fun hHeld => ?_); refine with_tabW row_put.tab8 row_put.bits8 (fun HT_ HW_ => ?_)
            generalize w28.drew = w30 at HO0 BK579 HK HB hHeld ⊢
            refine pu HT_ 0 (some 24) (bb 1 10) ?_
            refine pu HT_ 1 (some 25) (bb 2 10) ?_
            refine pu HT_ 6 (some 30) (bs 10 67) ?_
            refine tk HT_ HW_ hHeld 2 (some 26) (bs 10 71) ?_
            refine pu HT_ 3 (some 27) (bs 10 79) ?_
            refine pu HT_ 4 (some 28) (bs 10 95) ?_
            refine tk HT_ HW_ hHeld 7 (some 31) (bs 10 223) ?_
            refine one_ (i := 5) (N := some 29) (bb 8 10) rfl rfl (one_of HT_.out (by kernel_rfl)) (by decide) (fun K hK => ?_)
            refine goes_ Tryd.func89 (by kernel_rfl) rfl #[.slice Ao31 l0.length co31, .int .u64 (IntKind.u64.wrap ((a1_3.size : Int)))] (by rfl) rfl rfl ar ?_
            with_reducible refine (row_putVarint.calls k (fun k_ => some k_ = (.slice Ao31 l0.length co31 : Value).ownBlock) (.slice Ao31 l0.length co31) l0 (IntKind.u64.wrap ((a1_3.size : Int))) t593 w0 _ ?side1 ?side2 A26.out).mono ?_
            (case side1 => repeat (first | (with_reducible first | exact HB.out | apply below_alloc | apply pw_below_drewN | apply below_drew1 | refine below_set ?_ GE579.out) | exact HB.out))
            (case side2 => exact Kd.R_tight rfl HO0.out)
            rintro e w32 ⟨v594, rfl, ho0, hb, hkp⟩
            refine ⟨_, rfl, ?_⟩
            have n0_ := am (blk_kept (bk BK579) hkp (fun hs_ => (fun e_ => (Kd.R_ne HO0.out BK579.out (by decide)) e_) hs_))
            have n1_ := am (Kd.R_mono (ok' := fun k_ => (P0_ k_ ∨ w.heap.size ≤ k_)) ho0 (fun k_ hk_ => Or.elim hk_ (fun hs_ => (HO0.out.1 k_ (hs_).symm)) (fun hn_ => (.inr (Nat.le_trans (by first | exact HK.out.1 | exact (show Kept w _ (fun k_ => P0_ k_) from by repeat (first | (with_reducible first | exact HK.out | apply Kept.alloc | apply Kept.drewN | apply Kept.drew | refine Kept.setCell ?_ (.inr GW579.out) _) | exact HK.out)).1) hn_)))))
            have n2_ := am (Kept.then_ (S := (fun k_ => P0_ k_)) (by repeat (first | (with_reducible first | exact HK.out | apply Kept.alloc | apply Kept.drewN | apply Kept.drew | refine Kept.setCell ?_ (.inr GW579.out) _) | exact HK.out)) hkp (fun k_ hs_ => (fun e_ => (HO0.out.1 k_ e_.symm)) hs_))
            have n3_ := am (hb)
            clear BK579
            clear HK
            clear HB
            clear HO0
            have BK579 := n0_
            have HO595 := n1_
            have HK := n2_
            have HB := n3_
            clear n0_ n1_ n2_ n3_
            (try clear hb)
            (try clear hkp)
            (try clear ho0)
            refine hK.out _ _ ⟨(blk_cell BK579.out 0).trans rfl, (blk_cell BK579.out 1).trans rfl, (blk_cell BK579.out 2).trans rfl, (blk_cell BK579.out 3).trans rfl⟩ (fun hHeld => ?_)
            clear hK K
            refine norm_ (a' := ?_) ?_ ?_
            rotate_left
            · show Act.put _ (some 29) _ = _
              simp only [Act.put, List.setIfInBounds_toArray, List.set_cons_zero, List.set_cons_succ, i64_w, i32_w]
              rfl
            refine one_ (i := 8) (N := some 32) (bb 9 10) rfl rfl (one_of HT_.out (by kernel_rfl)) (by decide) (fun K hK => ?_)
            refine Kd.R_append_str_step (w0 := w0) w0.heap.size (by rfl) (.tmp 29) _ 80 9 5 rfl Tryd.underlying80 Tryd.underlying9 info5 v594 t593 a1_3 (fun k_ => (P0_ k_ ∨ w.heap.size ≤ k_)) rfl rfl ?aF ?aO ?aB ?aS ?aL ?_
            (case aB => exact (bl HB))
            (case aF => exact (fun k_ hk => (.inr (Nat.le_trans (by first | exact HK.out.1 | exact (show Kept w _ (fun k_ => P0_ k_) from by repeat (first | (with_reducible first | exact HK.out | apply Kept.alloc | apply Kept.drewN | apply Kept.drew | refine Kept.setCell ?_ (.inr GW579.out) _) | exact HK.out)).1) hk))))
            (case aO => exact (Kd.rr HO595.out))
            (case aS => exact (below_size (bl HB)))
            (case aL => have := LMc27.out; omega)
            intro v597 w33 ho hb hg hat
            rw [← Ny596.out] at ho
            have n0_ := am (blk_grown (g := gb579) (o := .cells #[.int .i64 a1_0, .int .i64 a1_1, .float .f64 a1_2, .string a1_3] 50 (0, 0)) (bk BK579) hg (Kd.R_ne HO595.out BK579.out (by decide)))
            have n1_ := am (hb)
            have n2_ := am (Kept.of_grown (S := (fun k_ => P0_ k_)) hg (by repeat (first | (with_reducible first | exact HK.out | apply Kept.alloc | apply Kept.drewN | apply Kept.drew | refine Kept.setCell ?_ (.inr GW579.out) _) | exact HK.out)) (fun k_ e_ => (HO595.out.1 k_ e_)))
            have n3_ := am (ho)
            clear BK579
            clear HB
            clear HK
            clear HO595
            have BK579 := n0_
            have HB := n1_
            have HK := n2_
            have HO598 := n3_
            clear n0_ n1_ n2_ n3_
            clear ho hb hg hat
            refine hK.out _ _ ⟨(blk_cell BK579.out 0).trans rfl, (blk_cell BK579.out 1).trans rfl, (blk_cell BK579.out 2).trans rfl, (blk_cell BK579.out 3).trans rfl⟩ (fun hHeld => ?_)
            clear hK K
            refine norm_ (a' := ?_) ?_ ?_
            rotate_left
            · show Act.put _ (some 32) _ = _
              simp only [Act.put, List.setIfInBounds_toArray, List.set_cons_zero, List.set_cons_succ, i64_w, i32_w]
              rfl
            refine pu HT_ 9 (some 4) (bb 10 10) ?_
            refine done_ (done_of HT_.out (by kernel_rfl)) ?_
            try go_wp2
            go_ret
            exact ⟨_, er, Kd.rr HO598.out, bl HB, by repeat (first | (with_reducible first | exact HK.out | apply Kept.alloc | apply Kept.drewN | apply Kept.drew | refine Kept.setCell ?_ (.inr GW579.out) _) | exact HK.out)⟩
          · rw [if_neg c27] at H
            exact absurd H (by simp)
        · rw [if_neg c25] at H
          have c25b0 : (a1_0 == 5) = false := beq_eq_false_iff_ne.mpr c25
          have c25b1 : (a1_0 != 5) = true := bne_iff_ne.mpr c25
          obtain rfl := Option.some.inj H
          go_enter Tryd.func120, Tryd.ntmps120
          go_wp2_with (first | ((with_reducible refine gate_dst (N := 3) rfl ?_); refine box_event rfl (N := 3) rfl (cs := #[.int .i64 a1_0, .int .i64 a1_1, .float .f64 a1_2, .string a1_3]) (t := 50) gs ?_; intro gb579 hg w34 hbox hb; have n0_ := am (Kd.R_below (Kd.rr HO0.out) hb); have n1_ := am (Kept.below (S := (fun k_ => P0_ k_)) (by repeat (first | (with_reducible first | exact HK.out | apply Kept.alloc | apply Kept.drewN | apply Kept.drew) | exact HK.out)) hb); have n2_ := sb HB hb; have n3_ := am (hbox); have n4_ := am ((by rw [hg]; exact (by first | exact HK.out.1 | exact (show Kept w _ (fun k_ => P0_ k_) from by repeat (first | (with_reducible first | exact HK.out | apply Kept.alloc | apply Kept.drewN | apply Kept.drew) | exact HK.out)).1) : w.heap.size ≤ gb579)); have n5_ := am ((by rw [hg]; exact (below_size (bl HB)) : w0.heap.size ≤ gb579)); clear HO0; clear HK; clear HB; have HO0 := n0_; have HK := n1_; have HB := n2_; have BK579 := n3_; have GW579 := n4_; have GE579 := n5_; clear n0_ n1_ n2_ n3_ n4_ n5_; clear hb hbox hg; obtain ⟨Z35_0, Z35_1, Z35_2, Z35_3, Y35_0, Y35_1, Y35_2, Y35_3⟩ := bq4 BK579))
          go_ret
          exact ⟨_, er, Kd.rr HO0.out, bl HB, by repeat (first | (with_reducible first | exact HK.out | apply Kept.alloc | apply Kept.drewN | apply Kept.drew | refine Kept.setCell ?_ (.inr GW579.out) _) | exact HK.out)⟩
end Go.Proofs.YtpiifdbicibelaaDoor.PA
end
section
namespace Go.Proofs.YtpiifdbicibelaaDoor.PA
open Go.RowKit Go.Proofs Go.Proofs.YtpiifdbicibelaaDoorW.PrintWords Go.Proofs.YtpiifdbicibelaaDoorW.PrintLast Go.Proofs.YtpiifdbicibelaaDoorW.PrintMore Go.Proofs.YtpiifdbicibelaaDoor.Pure
set_option linter.unusedVariables false
set_option linter.unusedSimpArgs false
/-- Why a row may not be one of these columns. -/
def admRow : List S105 → List S50 → Int
  | c :: cs, v :: vs => if chk v.f0 v.f1 v.f2 v.f3 ≠ 0 then chk v.f0 v.f1 v.f2 v.f3 else if v.f0 = 0 then (if c.f2 = true then admRow cs vs else 35) else if v.f0 = c.f1 then admRow cs vs else 32
  | _, _ => 0
def admT (name : ByteArray) (cols : List S105) (key : List Int) (idx : List S115) (refs : List S139) (row : List S50) : Int :=
  if checkT name cols key idx refs ≠ 0 then checkT name cols key idx refs else if row.length ≠ cols.length then 1 else admRow cols row
theorem rd50_get {xs : List S50} {k : Nat} (hk : k < xs.length) : xs[k]? = some (rd_T50 xs (k : Int)) := by
  unfold rd_T50; simp [List.getD, List.getElem?_eq_getElem hk]
set_option maxHeartbeats 16000000 in
set_option maxRecDepth 100000 in
theorem schemaAdmits_any (a0_0 : ByteArray) (A0_1 : Option Addr) (c0_1 : Nat) (l0_1 : List (S105)) (A0_2 : Option Addr) (c0_2 : Nat) (l0_2 : List Int) (A0_3 : Option Addr) (c0_3 : Nat) (l0_3 : List (S115)) (A0_4 : Option Addr) (c0_4 : Nat) (l0_4 : List (S139)) (A1 : Option Addr) (c1 : Nat) (l1 : List (S50)) (w : World) (hr0_1 : Kd.C k105 w A0_1 l0_1.length l0_1) (hc0_1 : l0_1.length ≤ c0_1) (hr0_2 : Kd.C (Kd.int .i64) w A0_2 l0_2.length l0_2) (hc0_2 : l0_2.length ≤ c0_2) (hr0_3 : Kd.C k115 w A0_3 l0_3.length l0_3) (hc0_3 : l0_3.length ≤ c0_3) (hr0_4 : Kd.C k139 w A0_4 l0_4.length l0_4) (hc0_4 : l0_4.length ≤ c0_4) (hr1 : Kd.C k50 w A1 l1.length l1) (hc1 : l1.length ≤ c1) (hG : Glob w) (hw : WfT a0_0 l0_1 l0_2 l0_3 l0_4) (hv : ∀ v ∈ l1, v.f3.size ≤ 140737488351232) :
    Calls Tryd.prog 83 #[.agg #[.string a0_0, .slice A0_1 l0_1.length c0_1, .slice A0_2 l0_2.length c0_2, .slice A0_3 l0_3.length c0_3, .slice A0_4 l0_4.length c0_4], .slice A1 l1.length c1] w fun e w' => e = .returned (.int .i64 (admT a0_0 l0_1 l0_2 l0_3 l0_4 l1)) ∧ Below w.heap.size w w' := by
  have HC1 := Aside0.mk hr0_1
  have HC2 := Aside0.mk hr0_2
  have HC3 := Aside0.mk hr0_3
  have HC4 := Aside0.mk hr0_4
  have HCC1 := Aside0.mk hc0_1
  have HCC2 := Aside0.mk hc0_2
  have HCC3 := Aside0.mk hc0_3
  have HCC4 := Aside0.mk hc0_4
  have HC5 := Aside0.mk hr1
  have hmax1 : l0_1.length ≤ 9223372036854775807 := hr0_1.2.1
  have hmax5 : l1.length ≤ 9223372036854775807 := hr1.2.1
  have HG := Aside0.mk hG
  have HW := Aside0.mk hw
  have HV := Aside0.mk hv
  clear hr0_1 hc0_1 hr0_2 hc0_2 hr0_3 hc0_3 hr0_4 hc0_4 hr1 hc1 hG hw hv
  obtain ⟨R, hR⟩ : ∃ R, admT a0_0 l0_1 l0_2 l0_3 l0_4 l1 = R := ⟨_, rfl⟩
  rw [hR]
  unfold admT at hR
  have HR := Aside0.mk hR
  clear hR
  go_enter Tryd.func83, Tryd.ntmps83
  go_wp2_with fail
  refine (schemaCheck_any a0_0 A0_1 c0_1 l0_1 A0_2 c0_2 l0_2 A0_3 c0_3 l0_3 A0_4 c0_4 l0_4 _ (Kd.C_below HC1.out ((Below.refl _ w).alloc (Nat.le_refl _) _)) HCC1.out (Kd.C_below HC2.out ((Below.refl _ w).alloc (Nat.le_refl _) _)) HCC2.out (Kd.C_below HC3.out ((Below.refl _ w).alloc (Nat.le_refl _) _)) HCC3.out (Kd.C_below HC4.out ((Below.refl _ w).alloc (Nat.le_refl _) _)) HCC4.out (HG.out.below ((Below.refl _ w).alloc (Nat.le_refl _) _)) HW.out).mono ?_
  rintro e w1 ⟨rfl, hb1⟩
  have HB1 : Aside0 (Below (w.heap.size + 1) (w.alloc (.cells #[.string a0_0, .slice A0_1 l0_1.length c0_1, .slice A0_2 l0_2.length c0_2, .slice A0_3 l0_3.length c0_3, .slice A0_4 l0_4.length c0_4] 65)) w1) := ⟨hb1.mono (by simp)⟩
  have HBW1 : Aside0 (Below w.heap.size w w1) := ⟨((Below.refl _ w).alloc (Nat.le_refl _) _).trans (HB1.out.mono (by omega))⟩
  clear hb1
  have t1_0 : w1.cell? ⟨w.heap.size, 0, none⟩ = some (.string a0_0) := (HB1.out.cell (p := ⟨w.heap.size, 0, none⟩) (by simp)).trans (by simp)
  have t1_1 : w1.cell? ⟨w.heap.size, 1, none⟩ = some (.slice A0_1 l0_1.length c0_1) := (HB1.out.cell (p := ⟨w.heap.size, 1, none⟩) (by simp)).trans (by simp)
  have t1_2 : w1.cell? ⟨w.heap.size, 2, none⟩ = some (.slice A0_2 l0_2.length c0_2) := (HB1.out.cell (p := ⟨w.heap.size, 2, none⟩) (by simp)).trans (by simp)
  have t1_3 : w1.cell? ⟨w.heap.size, 3, none⟩ = some (.slice A0_3 l0_3.length c0_3) := (HB1.out.cell (p := ⟨w.heap.size, 3, none⟩) (by simp)).trans (by simp)
  have t1_4 : w1.cell? ⟨w.heap.size, 4, none⟩ = some (.slice A0_4 l0_4.length c0_4) := (HB1.out.cell (p := ⟨w.heap.size, 4, none⟩) (by simp)).trans (by simp)
  obtain ⟨ce, hce⟩ : ∃ ce, checkT a0_0 l0_1 l0_2 l0_3 l0_4 = ce := ⟨_, rfl⟩
  rw [hce] at HR ⊢
  clear hce
  by_cases q5 : ce = 0
  case neg =>
    rw [if_pos q5] at HR
    have HR' := HR.out
    subst HR'
    have q5a : (ce != 0) = true := by simpa using q5
    have q5b : (ce == 0) = false := by simpa using q5
    clear q5
    go_wp2
    go_ret
    exact ⟨rfl, HBW1.out⟩
  subst q5
  rw [if_neg (by decide)] at HR
  by_cases q6 : l1.length = l0_1.length
  case neg =>
    rw [if_pos q6] at HR
    have HR' := HR.out
    subst HR'
    have q6a : ((l1.length : Int) != (l0_1.length : Int)) = true := by simp; omega
    have q6b : ((l1.length : Int) == (l0_1.length : Int)) = false := by simp; omega
    clear q6
    go_wp2
    go_ret
    exact ⟨rfl, HBW1.out⟩
  rw [if_neg (by simp [q6])] at HR
  have q6a : ((l1.length : Int) != (l0_1.length : Int)) = false := by simp [q6]
  have q6b : ((l1.length : Int) == (l0_1.length : Int)) = true := by simp [q6]
  have Q6 := Aside0.mk q6
  clear q6
  go_wp2
  go_loopg [24] l0_1.length (fun gg s24 wr => ∃ i : Nat, s24 = .int .i64 i ∧ Aside0 (i ≤ l0_1.length) ∧ Aside0 (l0_1.length - i ≤ gg) ∧ Aside0 (admRow (l0_1.drop i) (l1.drop i) = R) ∧ Aside0 (Below (w.heap.size + 1) (w.alloc (.cells #[.string a0_0, .slice A0_1 l0_1.length c0_1, .slice A0_2 l0_2.length c0_2, .slice A0_3 l0_3.length c0_3, .slice A0_4 l0_4.length c0_4] 65)) wr))
  case atStart => exact ⟨0, rfl, ⟨Nat.zero_le _⟩, ⟨by omega⟩, HR, HB1⟩
  case round =>
    obtain ⟨i, rfl, HK, HM, HE, HBr⟩ := hrel
    have hkk := HK.out
    clear HR HB1 HBW1 q6a q6b
    clear t1_0 t1_1 t1_2 t1_3 t1_4
    have hz0 : w.heap.size < wr.heap.size := by have := HBr.out.size; simp at this; omega
    have HBWr : Aside0 (Below w.heap.size w wr) := ⟨((Below.refl _ w).alloc (Nat.le_refl _) _).trans (HBr.out.mono (by omega))⟩
    have tr_0 : wr.cell? ⟨w.heap.size, 0, none⟩ = some (.string a0_0) := (HBr.out.cell (p := ⟨w.heap.size, 0, none⟩) (by simp)).trans (by simp)
    have tr_1 : wr.cell? ⟨w.heap.size, 1, none⟩ = some (.slice A0_1 l0_1.length c0_1) := (HBr.out.cell (p := ⟨w.heap.size, 1, none⟩) (by simp)).trans (by simp)
    have tr_2 : wr.cell? ⟨w.heap.size, 2, none⟩ = some (.slice A0_2 l0_2.length c0_2) := (HBr.out.cell (p := ⟨w.heap.size, 2, none⟩) (by simp)).trans (by simp)
    have tr_3 : wr.cell? ⟨w.heap.size, 3, none⟩ = some (.slice A0_3 l0_3.length c0_3) := (HBr.out.cell (p := ⟨w.heap.size, 3, none⟩) (by simp)).trans (by simp)
    have tr_4 : wr.cell? ⟨w.heap.size, 4, none⟩ = some (.slice A0_4 l0_4.length c0_4) := (HBr.out.cell (p := ⟨w.heap.size, 4, none⟩) (by simp)).trans (by simp)
    by_cases hlt : i < l0_1.length
    · have hltz : (i : Int) < (l0_1.length : Int) := by omega
      have hlt5 : i < l1.length := by have := Q6.out; omega
      have hltz5 : (i : Int) < (l1.length : Int) := by omega
      obtain ⟨ad, e, hx0, hx1, hx2, hx3, hx4, hx5, hx6⟩ := at_T105 HC1.out (i : Int) (by omega) hltz
      subst e
      obtain ⟨ae, e, hv0, hv1, hv2, hv3⟩ := at_T50 HC5.out (i : Int) (by omega) hltz5
      subst e
      simp only [Int.toNat_natCast] at hx0 hx1 hx2 hx3 hx4 hx5 hx6 hv0 hv1 hv2 hv3
      replace hx0 := (HBWr.out.cell (World.block_lt_of_cell? w _ hx0)).trans hx0
      replace hx1 := (HBWr.out.cell (World.block_lt_of_cell? w _ hx1)).trans hx1
      replace hx2 := (HBWr.out.cell (World.block_lt_of_cell? w _ hx2)).trans hx2
      replace hx3 := (HBWr.out.cell (World.block_lt_of_cell? w _ hx3)).trans hx3
      replace hx4 := (HBWr.out.cell (World.block_lt_of_cell? w _ hx4)).trans hx4
      replace hx5 := (HBWr.out.cell (World.block_lt_of_cell? w _ hx5)).trans hx5
      replace hx6 := (HBWr.out.cell (World.block_lt_of_cell? w _ hx6)).trans hx6
      have HV0 := Aside0.mk hv0
      have HV1 := Aside0.mk hv1
      have HV2 := Aside0.mk hv2
      have HV3 := Aside0.mk hv3
      have hy := rd105_get hlt
      generalize rd_T105 l0_1 (i : Int) = y at hx0 hx1 hx2 hx3 hx4 hx5 hx6 hy
      have hyv := rd50_get hlt5
      generalize rd_T50 l1 (i : Int) = v at HV0 HV1 HV2 HV3 hyv
      have HD : Aside0 (l0_1.drop i = y :: l0_1.drop (i + 1)) := ⟨by rw [List.drop_eq_getElem_cons hlt]; congr 1; exact (List.getElem?_eq_some_iff.1 hy).2⟩
      have HDV : Aside0 (l1.drop i = v :: l1.drop (i + 1)) := ⟨by rw [List.drop_eq_getElem_cons hlt5]; congr 1; exact (List.getElem?_eq_some_iff.1 hyv).2⟩
      have HVS : Aside0 (v.f3.size ≤ 140737488351232) := ⟨HV.out v (List.mem_of_getElem? hyv)⟩
      clear hy hyv hv0 hv1 hv2 hv3
      have HBX : Aside0 (Below w.heap.size w (wr.alloc (.cells #[.string y.f0, .int .i64 y.f1, .bool y.f2, .int .i64 y.f3.f0, .int .i64 y.f3.f1, .float .f64 y.f3.f2, .string y.f3.f3] 105))) := ⟨HBWr.out.alloc HBWr.out.size _⟩
      have hu0 := (HBX.out.cell (World.block_lt_of_cell? w _ HV0.out)).trans HV0.out
      have hu1 := (HBX.out.cell (World.block_lt_of_cell? w _ HV1.out)).trans HV1.out
      have hu2 := (HBX.out.cell (World.block_lt_of_cell? w _ HV2.out)).trans HV2.out
      have hu3 := (HBX.out.cell (World.block_lt_of_cell? w _ HV3.out)).trans HV3.out
      go_wp2_with fail
      refine (vcheck_any v.f0 v.f1 v.f2 v.f3 _ (HG.out.below HBX.out) HVS.out).mono ?_
      rintro e w2 ⟨rfl, hb2⟩
      have hz2 : wr.heap.size < w2.heap.size := by have := hb2.size; simp at this; omega
      have HB2 : Aside0 (Below (w.heap.size + 1) (w.alloc (.cells #[.string a0_0, .slice (some ad) l0_1.length c0_1, .slice A0_2 l0_2.length c0_2, .slice A0_3 l0_3.length c0_3, .slice A0_4 l0_4.length c0_4] 65)) w2) := ⟨(HBr.out.alloc (by omega) _).trans (hb2.mono (by simp; omega))⟩
      have HBW2 : Aside0 (Below w.heap.size w w2) := ⟨((Below.refl _ w).alloc (Nat.le_refl _) _).trans (HB2.out.mono (by omega))⟩
      have t2_0 : w2.cell? ⟨w.heap.size, 0, none⟩ = some (.string a0_0) := (HB2.out.cell (p := ⟨w.heap.size, 0, none⟩) (by simp)).trans (by simp)
      have t2_1 : w2.cell? ⟨w.heap.size, 1, none⟩ = some (.slice (some ad) l0_1.length c0_1) := (HB2.out.cell (p := ⟨w.heap.size, 1, none⟩) (by simp)).trans (by simp)
      have t2_2 : w2.cell? ⟨w.heap.size, 2, none⟩ = some (.slice A0_2 l0_2.length c0_2) := (HB2.out.cell (p := ⟨w.heap.size, 2, none⟩) (by simp)).trans (by simp)
      have t2_3 : w2.cell? ⟨w.heap.size, 3, none⟩ = some (.slice A0_3 l0_3.length c0_3) := (HB2.out.cell (p := ⟨w.heap.size, 3, none⟩) (by simp)).trans (by simp)
      have t2_4 : w2.cell? ⟨w.heap.size, 4, none⟩ = some (.slice A0_4 l0_4.length c0_4) := (HB2.out.cell (p := ⟨w.heap.size, 4, none⟩) (by simp)).trans (by simp)
      have b1 : w2.cell? ⟨wr.heap.size, 1, none⟩ = some (.int .i64 y.f1) := (hb2.cell (p := ⟨wr.heap.size, 1, none⟩) (by simp)).trans (by simp)
      have b2 : w2.cell? ⟨wr.heap.size, 2, none⟩ = some (.bool y.f2) := (hb2.cell (p := ⟨wr.heap.size, 2, none⟩) (by simp)).trans (by simp)
      have g0 := (HBW2.out.cell (World.block_lt_of_cell? w _ HV0.out)).trans HV0.out
      clear hb2 hx0 hx1 hx2 hx3 hx4 hx5 hx6 hu0 hu1 hu2 hu3
      clear tr_0 tr_1 tr_2 tr_3 tr_4
      rw [HD.out, HDV.out, admRow] at HE
      obtain ⟨ck, hck⟩ : ∃ ck, chk v.f0 v.f1 v.f2 v.f3 = ck := ⟨_, rfl⟩
      rw [hck] at HE ⊢
      clear hck
      by_cases q3 : ck = 0
      case neg =>
        rw [if_pos q3] at HE
        have HR' := HE.out
        subst HR'
        have q3a : (ck != 0) = true := by simpa using q3
        have q3b : (ck == 0) = false := by simpa using q3
        clear q3
        go_wp2
        go_ret
        exact ⟨rfl, HBW2.out⟩
      subst q3
      rw [if_neg (by decide)] at HE
      by_cases q4 : v.f0 = 0
      · rw [if_pos q4] at HE
        have q4b : (v.f0 == 0) = true := by simpa using q4
        clear q4
        cases hn : y.f2
        · rw [hn, if_neg (by decide)] at HE
          have HR' := HE.out
          subst HR'
          rw [hn] at b2
          go_wp2
          go_ret
          exact ⟨rfl, HBW2.out⟩
        · rw [hn, if_pos rfl] at HE
          rw [hn] at b2
          go_wp2
          repeat (go_quiet (fail); try go_wp2)
          all_goals
            go_roundg (l0_1.length - (i + 1))
            case measure => have := HM.out; omega
            case rel => exact ⟨i + 1, by go_num, ⟨by omega⟩, ⟨Nat.le_refl _⟩, HE, ⟨by repeat (first | exact HB2.out | apply pw_below_drewN | apply below_drew1)⟩⟩
      · rw [if_neg q4] at HE
        have q4b : (v.f0 == 0) = false := by simpa using q4
        clear q4
        by_cases q7 : v.f0 = y.f1
        · rw [if_pos q7] at HE
          have q7a : (v.f0 != y.f1) = false := by simpa using q7
          have q7b : (v.f0 == y.f1) = true := by simpa using q7
          clear q7
          go_wp2
          repeat (go_quiet (fail); try go_wp2)
          all_goals
            go_roundg (l0_1.length - (i + 1))
            case measure => have := HM.out; omega
            case rel => exact ⟨i + 1, by go_num, ⟨by omega⟩, ⟨Nat.le_refl _⟩, HE, ⟨by repeat (first | exact HB2.out | apply pw_below_drewN | apply below_drew1)⟩⟩
        · rw [if_neg q7] at HE
          have HR' := HE.out
          subst HR'
          have q7a : (v.f0 != y.f1) = true := by simpa using q7
          have q7b : (v.f0 == y.f1) = false := by simpa using q7
          clear q7
          go_wp2
          repeat (go_quiet (fail); try go_wp2)
          all_goals
            go_ret
            exact ⟨rfl, by repeat (first | exact HBW2.out | apply pw_below_drewN | apply below_drew1)⟩
    · obtain rfl : i = l0_1.length := by omega
      have hltz : ¬ (l0_1.length : Int) < (l0_1.length : Int) := by omega
      rw [List.drop_of_length_le (Nat.le_refl _), List.drop_of_length_le (by have := Q6.out; omega)] at HE
      have HR' := HE.out
      subst HR'
      go_wp2
      go_ret
      exact ⟨rfl, HBWr.out⟩
def okV (l1 : List S50) : Bool := l1.all fun v => decide (v.f3.size ≤ 140737488351232)
/-- vellum/schema.Admits -/
def schema_Admits.f (a0_0 : ByteArray) (l0_1 : List (S105)) (l0_2 : List Int) (l0_3 : List (S115)) (l0_4 : List (S139)) (l1 : List (S50)) : Option Int := if wfTB a0_0 l0_1 l0_2 l0_3 l0_4 && okV l1 then some (admT a0_0 l0_1 l0_2 l0_3 l0_4 l1) else none
theorem schema_Admits.calls (a0_0 : ByteArray) (A0_1 : Option Addr) (c0_1 : Nat) (l0_1 : List (S105)) (A0_2 : Option Addr) (c0_2 : Nat) (l0_2 : List Int) (A0_3 : Option Addr) (c0_3 : Nat) (l0_3 : List (S115)) (A0_4 : Option Addr) (c0_4 : Nat) (l0_4 : List (S139)) (A1 : Option Addr) (c1 : Nat) (l1 : List (S50)) (r : Int) (w : World) (hr0_1 : Kd.C k105 w A0_1 l0_1.length l0_1) (hc0_1 : l0_1.length ≤ c0_1) (hr0_2 : Kd.C (Kd.int .i64) w A0_2 l0_2.length l0_2) (hc0_2 : l0_2.length ≤ c0_2) (hr0_3 : Kd.C k115 w A0_3 l0_3.length l0_3) (hc0_3 : l0_3.length ≤ c0_3) (hr0_4 : Kd.C k139 w A0_4 l0_4.length l0_4) (hc0_4 : l0_4.length ≤ c0_4) (hr1 : Kd.C k50 w A1 l1.length l1) (hc1 : l1.length ≤ c1) (hG : Glob w) (h : schema_Admits.f a0_0 l0_1 l0_2 l0_3 l0_4 l1 = some r) :
    Calls Tryd.prog 83 #[.agg #[.string a0_0, .slice A0_1 l0_1.length c0_1, .slice A0_2 l0_2.length c0_2, .slice A0_3 l0_3.length c0_3, .slice A0_4 l0_4.length c0_4], .slice A1 l1.length c1] w fun e w' => e = .returned (.int .i64 r) ∧ Below w.heap.size w w' := by
  unfold schema_Admits.f at h
  split at h
  · rename_i hw
    rw [Bool.and_eq_true] at hw
    obtain rfl := Option.some.inj h
    refine schemaAdmits_any a0_0 A0_1 c0_1 l0_1 A0_2 c0_2 l0_2 A0_3 c0_3 l0_3 A0_4 c0_4 l0_4 A1 c1 l1 w hr0_1 hc0_1 hr0_2 hc0_2 hr0_3 hc0_3 hr0_4 hc0_4 hr1 hc1 hG (wfTB_wf hw.1) (fun v hv => ?_)
    have := List.all_eq_true.1 hw.2 v hv
    simpa using this
  · cases h
end Go.Proofs.YtpiifdbicibelaaDoor.PA
end
section
namespace Go.Proofs.YtpiifdbicibelaaDoor.PA
open Go.RowKit Go.Proofs.YtpiifdbicibelaaDoorW.PrintWords Go.Proofs.YtpiifdbicibelaaDoorW.PrintLast Go.Proofs.YtpiifdbicibelaaDoorW.PrintMore
attribute [local go_sem] max2_int min2_int max_two min_two max_three min_three max_four min_four
set_option linter.unusedVariables false
set_option linter.unusedSimpArgs false
mutual
def row_encode.l0 : Nat → List (S50) → List Int → List (S50) → Int → Int → Option (List Int)
  | 0, _, _, _, _, _ => none
  | k + 1, x0, x3, x14, x15, x16 => if x16 < x15 then (if 0 ≤ x16 then (if x16 < (x14.length : Int) then (if 0 ≤ (wrap64 (Int.tdiv x16 4)) then (if (wrap64 (Int.tdiv x16 4)) < (x3.length : Int) then ((row_mark.f ((rd_T50 x14 x16).f0) ((rd_T50 x14 x16).f1) ((rd_T50 x14 x16).f2) ((rd_T50 x14 x16).f3)).bind fun t605 => (if 0 ≤ (wrap64 (2 * (Int.tmod x16 4))) then (row_encode.l0 k x0 (x3.set ((wrap64 (Int.tdiv x16 4)) : Int).toNat (Go.bits .or .u8 (rd x3 (wrap64 (Int.tdiv x16 4))) (shl .u8 t605 (wrap64 (2 * (Int.tmod x16 4)))))) x14 x15 (wrap64 (x16 + 1))) else (none))) else (none)) else (none)) else (none)) else (none)) else (row_encode.l1 k x3 x0 (x0.length : Int) 0)
def row_encode.l1 : Nat → List Int → List (S50) → Int → Int → Option (List Int)
  | 0, _, _, _, _ => none
  | k + 1, x3, x35, x36, x37 => if x37 < x36 then (if 0 ≤ x37 then (if x37 < (x35.length : Int) then ((row_put.f k x3 ((rd_T50 x35 x37).f0) ((rd_T50 x35 x37).f1) ((rd_T50 x35 x37).f2) ((rd_T50 x35 x37).f3)).bind fun t609 => (row_encode.l1 k t609 x35 x36 (wrap64 (x37 + 1)))) else (none)) else (none)) else (some x3)
end
def row_encode.f (k : Nat) (l0 : List (S50)) : Option (List Int) := if 0 ≤ (wrap64 (Int.tdiv (wrap64 ((wrap64 (2 * (l0.length : Int))) + 7)) 8)) then (if (wrap64 (Int.tdiv (wrap64 ((wrap64 (2 * (l0.length : Int))) + 7)) 8) : Int).toNat ≤ 281474976710656 then (row_encode.l0 k l0 (List.replicate (wrap64 (Int.tdiv (wrap64 ((wrap64 (2 * (l0.length : Int))) + 7)) 8) : Int).toNat 0) l0 (l0.length : Int) 0) else (none)) else (none)
def row_encode.T5 : Bool × List (List Nat × List Nat) := (true, [([], []), ([], []), ([1], [1]), ([0, 2], [0, 2]), ([3], [3]), ([], []), ([5], [5]), ([], []), ([7], [7]), ([8], [8]), ([6, 9], [6, 9]), ([4, 10], [4, 10]), ([0, 2, 0, 1, 2, 3, 4, 5, 6, 7, 8, 9, 10, 11], [0, 2]), ([12, 11, 6, 0, 1, 2, 3, 4, 5, 6, 7, 8, 9, 10, 11], [11, 12])])
def row_encode.B5 : List Nat := [0, 0, 2, 7, 15, 0, 32, 0, 128, 384, 992, 2047, 4095, 8191]
theorem row_encode.tab5 : rtab .any (opsOf Tryd.f84 5) = row_encode.T5 := by kernel_rfl
theorem row_encode.bits5 : waitsOk row_encode.T5.2 row_encode.B5 = true := by kernel_rfl
set_option maxHeartbeats 8000000 in
set_option maxRecDepth 100000 in
theorem row_encode.calls (k : Nat) (A0 : Option Addr) (c0 : Nat) (l0 : List (S50)) (r : List Int) (w : World) (hr0 : Kd.C k50 w A0 l0.length l0) (hc0 : l0.length ≤ c0) (h : row_encode.f k l0 = some r) :
    Calls Tryd.prog 84 #[.slice A0 l0.length c0] w fun e w' => ∃ v0_ : Value, e = .returned (v0_) ∧ Kd.R (Kd.int .u8) 5 w' w.heap.size (fun _ => True) v0_ r ∧ Below w.heap.size w w' := by
  have hu50 := Tryd.underlying50
  have HR0 := am hr0
  have HC0 := am hc0
  clear hr0 hc0
  have HB := am (Below.refl w.heap.size w)
  have H : (if 0 ≤ (wrap64 (Int.tdiv (wrap64 ((wrap64 (2 * (l0.length : Int))) + 7)) 8)) then (if (wrap64 (Int.tdiv (wrap64 ((wrap64 (2 * (l0.length : Int))) + 7)) 8) : Int).toNat ≤ 281474976710656 then (row_encode.l0 k l0 (List.replicate (wrap64 (Int.tdiv (wrap64 ((wrap64 (2 * (l0.length : Int))) + 7)) 8) : Int).toNat 0) l0 (l0.length : Int) 0) else (none)) else (none)) = some r := h
  clear h
  obtain ⟨ji2, hji2⟩ : ∃ j_ : Int, (wrap64 (Int.tdiv (wrap64 ((wrap64 (2 * (l0.length : Int))) + 7)) 8)) = j_ := ⟨_, rfl⟩
  replace H : (if 0 ≤ (ji2) then (if (ji2 : Int).toNat ≤ 281474976710656 then (row_encode.l0 k l0 (List.replicate (ji2 : Int).toNat 0) l0 (l0.length : Int) 0) else (none)) else (none)) = some r := by first | (rw [hji2] at H; exact H) | (simp only [hji2] at H ⊢; exact H)
  have hji2w : (IntKind.i64.wrap (Int.tdiv (wrap64 ((wrap64 (2 * (l0.length : Int))) + 7)) 8)) = ji2 := (i64_w _).trans hji2
  by_cases c3 : 0 ≤ (ji2)
  · rw [if_pos c3] at H
    have c3b0 := eq_true c3
    have c3b1 : decide (0 ≤ (ji2)) = true := decide_eq_true c3
    clear c3
    by_cases c4 : (ji2 : Int).toNat ≤ 281474976710656
    · rw [if_pos c4] at H
      have c4b0 := eq_true c4
      have c4b1 : decide ((ji2 : Int).toNat ≤ 281474976710656) = true := decide_eq_true c4
      clear c4
      obtain ⟨y599, hy599⟩ : ∃ y_ : List Int, y_ = (List.replicate (ji2 : Int).toNat 0) := ⟨_, rfl⟩
      replace H : (row_encode.l0 k l0 y599 l0 (l0.length : Int) 0) = some r := by first | (rw [hy599]; with_reducible exact H) | (have H2_ := (Option.bind_some _ _).symm.trans H; rw [hy599]; with_reducible exact H2_) | (have H2_ := (Option.bind_some _ _).symm.trans H; with_reducible exact H2_) | with_reducible exact H | (rw [hy599]; exact H) | exact H
      have Ny599 := am hy599
      clear hy599
      have H' := am H
      clear H
      go_enter Tryd.func84, Tryd.ntmps84
      go_wp2_with (first | ((with_reducible refine gate_dst (N := 13) rfl ?_); refine Kd.R_make (Kd.int .u8) _ 5 rfl (N := 13) rfl 80 _ _ rfl ji2 rfl rfl Tryd.underlying80 (.int .u8 0) 1 info5 rfl (by decide) (by omega) 0 (ok := fun _ => True) (okp := fun _ => True) rfl (fun _ hk => hk) trivial (oda) (Nat.le_trans (Nat.mul_le_mul_right _ (oda : ji2.toNat ≤ 281474976710656)) (by omega)) (Below.refl _ _) (Nat.le_refl _) ?_; intro v600 w5 ho6 hb hg_ hnew_; clear hg_ hnew_; (first | rw [← Ny599.out] at ho6 | (simp only [Int.reduceToNat] at ho6; rw [← Ny599.out] at ho6)); have n0_ := am (Kd.R_lower ho6 (below_size (bl HB))); have n1_ := sb HB hb; clear HB; have HO601 := n0_; have HB := n1_; clear n0_ n1_; clear hb ho6))
      go_loopg [16] k (fun kq v16 w' => ∃ (x3_1 : List Int) (x16_1 : Int), v16 = .int .i64 x16_1 ∧ Aside0 (row_encode.l0 kq l0 x3_1 l0 (l0.length : Int) x16_1 = some r) ∧ Aside0 (kq ≤ k) ∧ Aside0 (Kd.R (Kd.int .u8) 5 w' w.heap.size (fun _ => True) v600 x3_1) ∧ Aside0 (Below w.heap.size w w'))
      case atStart => exact ⟨(y599), (0), eb, H', ⟨Nat.le_refl _⟩, ⟨Kd.rr HO601.out⟩, ⟨bl HB⟩⟩
      case round =>
        clear H'
        try clear p2
        try clear c3
        try clear c3b0
        try clear c3b1
        try clear c4
        try clear c4b0
        try clear c4b1
        try clear p6
        obtain ⟨x3_1, x16_1, rfl, HA, HK1, HO_3, HB⟩ := hrel
        cases gk with
        | zero => exact absurd HA.out (by simp [row_encode.l0])
        | succ k1 =>
          have H := HA.out
          clear HA
          simp only [row_encode.l0] at H
          by_cases c7 : x16_1 < (l0.length : Int)
          · rw [if_pos c7] at H
            have c7b0 : decide (x16_1 < (l0.length : Int)) = true := decide_eq_true c7
            clear c7
            by_cases c8 : 0 ≤ x16_1
            · rw [if_pos c8] at H
              have c8b0 : decide (0 ≤ x16_1) = true := decide_eq_true c8
              clear c8
              by_cases c9 : x16_1 < (l0.length : Int)
              · rw [if_pos c9] at H
                have c9b0 : decide (x16_1 < (l0.length : Int)) = true := decide_eq_true c9
                clear c9
                obtain ⟨ji10, hji10⟩ : ∃ j_ : Int, (wrap64 (Int.tdiv x16_1 4)) = j_ := ⟨_, rfl⟩
                replace H : (if 0 ≤ (ji10) then (if (ji10) < (x3_1.length : Int) then ((row_mark.f ((rd_T50 l0 x16_1).f0) ((rd_T50 l0 x16_1).f1) ((rd_T50 l0 x16_1).f2) ((rd_T50 l0 x16_1).f3)).bind fun t605 => (if 0 ≤ (wrap64 (2 * (Int.tmod x16_1 4))) then (row_encode.l0 k1 l0 (x3_1.set ((ji10) : Int).toNat (Go.bits .or .u8 (rd x3_1 (ji10)) (shl .u8 t605 (wrap64 (2 * (Int.tmod x16_1 4)))))) l0 (l0.length : Int) (wrap64 (x16_1 + 1))) else (none))) else (none)) else (none)) = some r := by first | (rw [hji10] at H; exact H) | (simp only [hji10] at H ⊢; exact H)
                have hji10w : (IntKind.i64.wrap (Int.tdiv x16_1 4)) = ji10 := (i64_w _).trans hji10
                by_cases c11 : 0 ≤ (ji10)
                · rw [if_pos c11] at H
                  have c11b0 : decide (0 ≤ (ji10)) = true := decide_eq_true c11
                  clear c11
                  by_cases c12 : (ji10) < (x3_1.length : Int)
                  · rw [if_pos c12] at H
                    have c12b0 : decide ((ji10) < (x3_1.length : Int)) = true := decide_eq_true c12
                    clear c12
                    replace H := Option.bind_eq_some_iff.mp H
                    obtain ⟨t605, A130, H⟩ := H
                    replace H : (if 0 ≤ (wrap64 (2 * (Int.tmod x16_1 4))) then (row_encode.l0 k1 l0 (x3_1.set ((ji10) : Int).toNat (Go.bits .or .u8 (rd x3_1 (ji10)) (shl .u8 t605 (wrap64 (2 * (Int.tmod x16_1 4)))))) l0 (l0.length : Int) (wrap64 (x16_1 + 1))) else (none)) = some r := H
                    have A13 := am A130
                    clear A130
                    obtain ⟨ji14, hji14⟩ : ∃ j_ : Int, (wrap64 (2 * (Int.tmod x16_1 4))) = j_ := ⟨_, rfl⟩
                    replace H : (if 0 ≤ (ji14) then (row_encode.l0 k1 l0 (x3_1.set ((ji10) : Int).toNat (Go.bits .or .u8 (rd x3_1 (ji10)) (shl .u8 t605 (ji14)))) l0 (l0.length : Int) (wrap64 (x16_1 + 1))) else (none)) = some r := by first | (rw [hji14] at H; exact H) | (simp only [hji14] at H ⊢; exact H)
                    (try rw [hji14] at A13)
                    have hji14w : (IntKind.i64.wrap (2 * (Int.tmod x16_1 4))) = ji14 := (i64_w _).trans hji14
                    by_cases c15 : 0 ≤ (ji14)
                    · rw [if_pos c15] at H
                      have c15b0 := eq_true c15
                      have c15b1 : decide (0 ≤ (ji14)) = true := decide_eq_true c15
                      clear c15
                      obtain ⟨ji16, hji16⟩ : ∃ j_ : Int, (shl .u8 t605 (ji14)) = j_ := ⟨_, rfl⟩
                      replace H : (row_encode.l0 k1 l0 (x3_1.set ((ji10) : Int).toNat (Go.bits .or .u8 (rd x3_1 (ji10)) (ji16))) l0 (l0.length : Int) (wrap64 (x16_1 + 1))) = some r := by first | (rw [hji16] at H; exact H) | (simp only [hji16] at H ⊢; exact H)
                      (try rw [hji16] at A13)
                      have hji16_ : (IntKind.u8.wrap (t605 * 2 ^ min (ji14).toNat 8)) = ji16 := hji16
                      have hji16z : (ji14) ≤ 8 → (IntKind.u8.wrap (t605 * 2 ^ (ji14).toNat)) = ji16 := shl_small hji16
                      obtain ⟨y606, hy606⟩ : ∃ y_ : List Int, y_ = (x3_1.set ((ji10) : Int).toNat (Go.bits .or .u8 (rd x3_1 (ji10)) (ji16))) := ⟨_, rfl⟩
                      replace H : (row_encode.l0 k1 l0 y606 l0 (l0.length : Int) (wrap64 (x16_1 + 1))) = some r := by first | (rw [hy606]; with_reducible exact H) | (have H2_ := (Option.bind_some _ _).symm.trans H; rw [hy606]; with_reducible exact H2_) | (have H2_ := (Option.bind_some _ _).symm.trans H; with_reducible exact H2_) | with_reducible exact H | (rw [hy606]; exact H) | exact H
                      have Ny606 := am hy606
                      clear hy606
                      have H' := am H
                      clear H
                      have p602 : 0 ≤ (x16_1 : Int) := oda
                      have q602 : x16_1 < (l0.length : Int) := oda
                      obtain ⟨ad602, e602, hx602_0, hx602_1, hx602_2, hx602_3⟩ := at_T50 HR0.out x16_1 p602 q602
                      cases e602
                      replace hx602_0 := hc HB hx602_0
                      replace hx602_1 := hc HB hx602_1
                      replace hx602_2 := hc HB hx602_2
                      replace hx602_3 := hc HB hx602_3
                      replace p602 := eq_true p602
                      replace q602 := eq_true q602
                      try go_wp2_with (first | ((with_reducible refine gate_dst (N := 5) rfl ?_); refine box_event rfl (N := 5) rfl (cs := #[.int .i64 0, .int .i64 0, .float .f64 0, .string (⟨#[]⟩ : ByteArray)]) (t := 50) gs ?_; intro gb603 hg w18 hbox hb; have n0_ := am (Kd.R_below (Kd.rr HO_3.out) hb); have n1_ := sb HB hb; have n2_ := am (hbox); have n3_ := gw hg HB; have n4_ := gw hg HB; clear HO_3; clear HB; have HO_3 := n0_; have HB := n1_; have BK603 := n2_; have GW603 := n3_; have GE603 := n4_; clear n0_ n1_ n2_ n3_ n4_; clear hb hbox hg; obtain ⟨Z19_0, Z19_1, Z19_2, Z19_3, Y19_0, Y19_1, Y19_2, Y19_3⟩ := bq4 BK603))
                      have n0_ : Aside0 (Kd.R (Kd.int .u8) 5 ((((w18.setCell ⟨gb603, 0, none⟩ (.int .i64 ((rd_T50 l0 x16_1).f0))).setCell ⟨gb603, 1, none⟩ (.int .i64 ((rd_T50 l0 x16_1).f1))).setCell ⟨gb603, 2, none⟩ (.float .f64 ((rd_T50 l0 x16_1).f2))).setCell ⟨gb603, 3, none⟩ (.string ((rd_T50 l0 x16_1).f3))) w.heap.size (fun _ => True) v600 x3_1) := ⟨by (with_reducible repeat (first | apply Kd.R_alloc | apply Kd.R_drewN | apply Kd.R_drew)); exact Kd.R_mono (Kd.R_far (p := ⟨gb603, 3, none⟩) (Kd.R_far (p := ⟨gb603, 2, none⟩) (Kd.R_far (p := ⟨gb603, 1, none⟩) (Kd.R_far (p := ⟨gb603, 0, none⟩) (Kd.R_types HO_3.out BK603.out (by decide)) (fun _ hk => hk.2) (.int .i64 ((rd_T50 l0 x16_1).f0))) (fun _ hk => hk.2) (.int .i64 ((rd_T50 l0 x16_1).f1))) (fun _ hk => hk.2) (.float .f64 ((rd_T50 l0 x16_1).f2))) (fun _ hk => hk.2) (.string ((rd_T50 l0 x16_1).f3))) (fun _ hk => trivial)⟩
                      have n1_ : Aside0 (((((w18.setCell ⟨gb603, 0, none⟩ (.int .i64 ((rd_T50 l0 x16_1).f0))).setCell ⟨gb603, 1, none⟩ (.int .i64 ((rd_T50 l0 x16_1).f1))).setCell ⟨gb603, 2, none⟩ (.float .f64 ((rd_T50 l0 x16_1).f2))).setCell ⟨gb603, 3, none⟩ (.string ((rd_T50 l0 x16_1).f3))).heap[gb603]? = some (.cells #[.int .i64 ((rd_T50 l0 x16_1).f0), .int .i64 ((rd_T50 l0 x16_1).f1), .float .f64 ((rd_T50 l0 x16_1).f2), .string ((rd_T50 l0 x16_1).f3)] 50 (0, 0))) := ⟨by refine rp ?_; refine blk_put (cs := #[.int .i64 ((rd_T50 l0 x16_1).f0), .int .i64 ((rd_T50 l0 x16_1).f1), .float .f64 ((rd_T50 l0 x16_1).f2), .string (⟨#[]⟩ : ByteArray)]) ?_ 3 _ rfl; refine rp ?_; refine blk_put (cs := #[.int .i64 ((rd_T50 l0 x16_1).f0), .int .i64 ((rd_T50 l0 x16_1).f1), .float .f64 0, .string (⟨#[]⟩ : ByteArray)]) ?_ 2 _ rfl; refine rp ?_; refine blk_put (cs := #[.int .i64 ((rd_T50 l0 x16_1).f0), .int .i64 0, .float .f64 0, .string (⟨#[]⟩ : ByteArray)]) ?_ 1 _ rfl; refine rp ?_; refine blk_put (cs := #[.int .i64 0, .int .i64 0, .float .f64 0, .string (⟨#[]⟩ : ByteArray)]) ?_ 0 _ rfl; exact bk BK603⟩
                      have n2_ : Aside0 (Below w.heap.size w ((((w18.setCell ⟨gb603, 0, none⟩ (.int .i64 ((rd_T50 l0 x16_1).f0))).setCell ⟨gb603, 1, none⟩ (.int .i64 ((rd_T50 l0 x16_1).f1))).setCell ⟨gb603, 2, none⟩ (.float .f64 ((rd_T50 l0 x16_1).f2))).setCell ⟨gb603, 3, none⟩ (.string ((rd_T50 l0 x16_1).f3)))) := ⟨bl HB⟩
                      (try clear HO_3)
                      (try clear BK603)
                      (try clear HB)
                      generalize ((((w18.setCell ⟨gb603, 0, none⟩ (.int .i64 ((rd_T50 l0 x16_1).f0))).setCell ⟨gb603, 1, none⟩ (.int .i64 ((rd_T50 l0 x16_1).f1))).setCell ⟨gb603, 2, none⟩ (.float .f64 ((rd_T50 l0 x16_1).f2))).setCell ⟨gb603, 3, none⟩ (.string ((rd_T50 l0 x16_1).f3))) = w20 at n0_ n1_ n2_ ⊢
                      have HO_3 := n0_
                      have BK603 := n1_
                      have HB := n2_
                      clear n0_ n1_ n2_
                      have n0_ := am (Kd.R_drew HO_3.out)
                      have n1_ := am (blk_drew BK603.out)
                      have n2_ := am (below_drew1 HB.out)
                      clear HO_3
                      clear BK603
                      clear HB
                      have HO_3 := n0_
                      have BK603 := n1_
                      have HB := n2_
                      clear n0_ n1_ n2_
                      obtain ⟨Ao22, co22, eo22⟩ := Kd.R_slice HO_3.out
                      (first | subst eo22 | (injection eo22 with f1_ f2_ f3_; have f4_ := f1_.symm; have f5_ := f3_.symm; clear f1_ f2_ f3_; subst f4_; subst f5_))
                      have p604 : 0 ≤ ((ji10) : Int) := oda
                      have q604 : (ji10) < (x3_1.length : Int) := oda
                      obtain ⟨ad604, e604, hx604_0⟩ := Kd.at_int (Kd.R_reads' HO_3.out).2.2 (ji10) p604 q604
                      cases e604
                      replace p604 := eq_true p604
                      replace q604 := eq_true q604
                      refine start_ (n := 14) (S := fun w' => w'.cell? ⟨gb603, 0, none⟩ = some (.int .i64 ((rd_T50 l0 x16_1).f0)) ∧ w'.cell? ⟨gb603, 1, none⟩ = some (.int .i64 ((rd_T50 l0 x16_1).f1)) ∧ w'.cell? ⟨gb603, 2, none⟩ = some (.float .f64 ((rd_T50 l0 x16_1).f2)) ∧ w'.cell? ⟨gb603, 3, none⟩ = some (.string ((rd_T50 l0 x16_1).f3)) ∧ w'.cell? (ad604.add ((ji10)).toNat) = some (.int .u8 (rd x3_1 (ji10)))) (ds := [13]) (bb 0 14) (by kernel_rfl) rfl rfl ⟨(blk_cell BK603.out 0).trans rfl, (blk_cell BK603.out 1).trans rfl, (blk_cell BK603.out 2).trans rfl, (blk_cell BK603.out 3).trans rfl, hx604_0⟩ (fun hHeld => ?_); refine with_tabW row_encode.tab5 row_encode.bits5 (fun HT_ HW_ => ?_)
                      generalize w20.drew = w21 at HO_3 BK603 HB hx604_0 hHeld ⊢
                      refine pu HT_ 0 (some 21) (bb 1 14) ?_
                      refine pu HT_ 1 (some 22) (bb 2 14) ?_
                      refine pu HT_ 2 (some 23) (bb 3 14) ?_
                      refine pu HT_ 3 (some 24) (bb 4 14) ?_
                      refine pu HT_ 7 (some 28) (bs 14 143) ?_
                      refine pu HT_ 8 (some 29) (bs 14 399) ?_
                      refine pu HT_ 9 (some 30) (bs 14 911) ?_
                      refine tk HT_ HW_ hHeld 4 (some 25) (bs 14 927) ?_
                      refine tk HT_ HW_ hHeld 5 (some 26) (bs 14 959) ?_
                      refine one_ (i := 6) (N := some 27) (bb 10 14) rfl rfl (one_of HT_.out (by kernel_rfl)) (by decide) (fun K hK => ?_)
                      refine goes_ Tryd.func119 (by kernel_rfl) rfl #[.agg #[.int .i64 ((rd_T50 l0 x16_1).f0), .int .i64 ((rd_T50 l0 x16_1).f1), .float .f64 ((rd_T50 l0 x16_1).f2), .string ((rd_T50 l0 x16_1).f3)]] (by rfl) rfl rfl ar ?_
                      with_reducible refine (row_mark.calls ((rd_T50 l0 x16_1).f0) ((rd_T50 l0 x16_1).f1) ((rd_T50 l0 x16_1).f2) ((rd_T50 l0 x16_1).f3) t605 _ A13.out).mono ?_
                      rintro e w23 ⟨rfl, hb⟩
                      have HS4_ := (hb.cell (World.block_lt_of_cell? _ _ (hHeld.2.2.2.2))).trans (hHeld.2.2.2.2)
                      refine ⟨_, rfl, ?_⟩
                      have n0_ := am (Kd.R_below (Kd.rr HO_3.out) hb)
                      have n1_ := kb BK603 hb
                      have n2_ := sb HB hb
                      clear HO_3
                      clear BK603
                      clear HB
                      have HO_3 := n0_
                      have BK603 := n1_
                      have HB := n2_
                      clear n0_ n1_ n2_
                      (try clear hb)
                      (try clear hb2)
                      (try clear hk)
                      (try clear hi)
                      have p17 : 0 ≤ ((ji10) : Int) := oda
                      have q17 : ((ji10) : Int) < ((x3_1.length : Int) : Int) := oda
                      obtain ⟨go17, co17, eo17, gb17, gl17, cl17, HG17⟩ := Kd.R_form HO_3.out (by omega)
                      (first | cases eo17 | (injection eo17 with ea_ en_ ec_; (first | subst ea_ | (injection ea_ with ea_; subst ea_)); subst ec_; clear en_))
                      have GB17 := am gb17
                      have GG17 := am HG17
                      clear gb17 gl17 HG17
                      (first | simp only [add_plain] at hx604_0 | skip)
                      obtain ⟨hx17_0, hf17_0⟩ := Kd.R_celln 0 HO_3.out ((ji10) : Int) p17 q17
                      replace p17 := eq_true p17
                      replace q17 := eq_true q17
                      have HP24 := Kd.R_putn HO_3.out ((ji10) : Int) (Go.bits .or .u8 (rd x3_1 (ji10)) (ji16))
                      rw [← Ny606.out] at HP24
                      have HQ24 := am HP24
                      clear HP24
                      refine hK.out _ _ ⟨(blk_cell BK603.out 0).trans rfl, (blk_cell BK603.out 1).trans rfl, (blk_cell BK603.out 2).trans rfl, (blk_cell BK603.out 3).trans rfl, HS4_⟩ (fun hHeld => ?_)
                      clear hK K
                      refine norm_ (a' := ?_) ?_ ?_
                      rotate_left
                      · show Act.put _ (some 27) _ = _
                        simp only [Act.put, List.setIfInBounds_toArray, List.set_cons_zero, List.set_cons_succ, i64_w, i32_w]
                        rfl
                      refine pu HT_ 10 (some 31) (bb 11 14) ?_
                      refine pu HT_ 11 (some 32) (bb 12 14) ?_
                      refine pu HT_ 12 (some 33) (bb 13 14) ?_
                      refine last_ (i := 13) (N := none) (bb 14 14) rfl rfl (one_of HT_.out (by kernel_rfl)) (by decide) (fun K hK => ?_)
                      refine skip_ (w1 := ?_) (by rfl) rfl ?_ ?_
                      rotate_left
                      · go_simp
                        rfl
                      refine hK.out _ _ ?_
                      clear hK K
                      refine done_ (done_of HT_.out (by kernel_rfl)) ?_
                      try go_wp2
                      go_roundg k1
                      case measure => have := HK1.out; omega
                      case rel => exact ⟨(y606), (wrap64 (x16_1 + 1)), eb, H', ⟨by have := HK1.out; omega⟩, ⟨by (with_reducible repeat (first | apply Kd.R_alloc | apply Kd.R_drewN | apply Kd.R_drew)); exact HQ24.out⟩, ⟨by repeat (first | (with_reducible first | exact HB.out | apply below_alloc | apply pw_below_drewN | apply below_drew1 | refine below_set ?_ GB17.out | refine below_set ?_ GE603.out) | exact HB.out)⟩⟩
                    · rw [if_neg c15] at H
                      exact absurd H (by simp)
                  · rw [if_neg c12] at H
                    exact absurd H (by simp)
                · rw [if_neg c11] at H
                  exact absurd H (by simp)
              · rw [if_neg c9] at H
                exact absurd H (by simp)
            · rw [if_neg c8] at H
              exact absurd H (by simp)
          · rw [if_neg c7] at H
            have c7b0 : decide (x16_1 < (l0.length : Int)) = false := decide_eq_false c7
            clear c7
            have H' := am H
            clear H
            go_wp2
            go_loopg [3, 37] k1 (fun kq v3 v37 w' => ∃ (x3_2 : List Int) (x37_2 : Int), v37 = .int .i64 x37_2 ∧ Aside0 (row_encode.l1 kq x3_2 l0 (l0.length : Int) x37_2 = some r) ∧ Aside0 (kq ≤ k1) ∧ Aside0 (Kd.R (Kd.int .u8) 5 w' w.heap.size (fun _ => True) v3 x3_2) ∧ Aside0 (Below w.heap.size w w'))
            case atStart => exact ⟨(x3_1), (0), eb, H', ⟨Nat.le_refl _⟩, ⟨Kd.rr HO_3.out⟩, ⟨bl HB⟩⟩
            case round =>
              clear H'
              try clear c1
              try clear p1
              try clear q1
              try clear hx1
              try clear hf1
              try clear p2
              try clear c3
              try clear c3b0
              try clear c3b1
              try clear c4
              try clear c4b0
              try clear c4b1
              try clear p6
              try clear q6
              try clear hx6
              try clear c7
              try clear c7b0
              try clear c8
              try clear c8b0
              try clear c9
              try clear c9b0
              try clear c11
              try clear c11b0
              try clear c12
              try clear c12b0
              try clear c15
              try clear c15b0
              try clear c15b1
              try clear p17
              try clear q17
              try clear hx17
              try clear hf17
              try clear Z19_0
              try clear Z19_1
              try clear Z19_2
              try clear Z19_3
              try clear Y19_0
              try clear Y19_1
              try clear Y19_2
              try clear Y19_3
              try clear hx17_0
              try clear hx602_0
              try clear hx602_1
              try clear hx602_2
              try clear hx602_3
              try clear hx604_0
              try clear p17
              try clear p2
              try clear p6
              try clear p602
              try clear p604
              try clear q17
              try clear q602
              try clear q604
              obtain ⟨x3_2, x37_2, rfl, HA, HK2, HO_3, HB⟩ := hrel
              cases gk with
              | zero => exact absurd HA.out (by simp [row_encode.l1])
              | succ k2 =>
                have H := HA.out
                clear HA
                simp only [row_encode.l1] at H
                by_cases c25 : x37_2 < (l0.length : Int)
                · rw [if_pos c25] at H
                  have c25b0 : decide (x37_2 < (l0.length : Int)) = true := decide_eq_true c25
                  clear c25
                  by_cases c26 : 0 ≤ x37_2
                  · rw [if_pos c26] at H
                    have c26b0 : decide (0 ≤ x37_2) = true := decide_eq_true c26
                    clear c26
                    by_cases c27 : x37_2 < (l0.length : Int)
                    · rw [if_pos c27] at H
                      have c27b0 : decide (x37_2 < (l0.length : Int)) = true := decide_eq_true c27
                      clear c27
                      replace H := Option.bind_eq_some_iff.mp H
                      obtain ⟨t609, A280, H⟩ := H
                      replace H : (row_encode.l1 k2 t609 l0 (l0.length : Int) (wrap64 (x37_2 + 1))) = some r := H
                      have A28 := am A280
                      clear A280
                      have H' := am H
                      clear H
                      have p607 : 0 ≤ (x37_2 : Int) := oda
                      have q607 : x37_2 < (l0.length : Int) := oda
                      obtain ⟨ad607, e607, hx607_0, hx607_1, hx607_2, hx607_3⟩ := at_T50 HR0.out x37_2 p607 q607
                      cases e607
                      replace hx607_0 := hc HB hx607_0
                      replace hx607_1 := hc HB hx607_1
                      replace hx607_2 := hc HB hx607_2
                      replace hx607_3 := hc HB hx607_3
                      replace p607 := eq_true p607
                      replace q607 := eq_true q607
                      go_wp2_with (first | ((with_reducible refine gate_dst (N := 7) rfl ?_); refine box_event rfl (N := 7) rfl (cs := #[.int .i64 0, .int .i64 0, .float .f64 0, .string (⟨#[]⟩ : ByteArray)]) (t := 50) gs ?_; intro gb608 hg w29 hbox hb; have n0_ := am (Kd.R_below (Kd.rr HO_3.out) hb); have n1_ := sb HB hb; have n2_ := am (hbox); have n3_ := gw hg HB; have n4_ := gw hg HB; clear HO_3; clear HB; have HO_3 := n0_; have HB := n1_; have BK608 := n2_; have GW608 := n3_; have GE608 := n4_; clear n0_ n1_ n2_ n3_ n4_; clear hb hbox hg; obtain ⟨Z30_0, Z30_1, Z30_2, Z30_3, Y30_0, Y30_1, Y30_2, Y30_3⟩ := bq4 BK608) | ((with_reducible refine gate_store (t := 50) (p := 7) rfl ?_); refine store_event (t := 50) (p := 7) (v := ?vo_w31) (w1 := ((((w29.setCell ⟨gb608, 0, none⟩ (.int .i64 ((rd_T50 l0 x37_2).f0))).setCell ⟨gb608, 1, none⟩ (.int .i64 ((rd_T50 l0 x37_2).f1))).setCell ⟨gb608, 2, none⟩ (.float .f64 ((rd_T50 l0 x37_2).f2))).setCell ⟨gb608, 3, none⟩ (.string ((rd_T50 l0 x37_2).f3)))) ?hg ?ho ?hn ?hr ?_; (case ho => rfl); (case hg => rfl); (case hn => rfl); (case hr => first | (go_simp; done) | (go_simp; rfl)); intro w31 hw; have n0_ : Aside0 (Kd.R (Kd.int .u8) 5 w31 w.heap.size (fun _ => True) u3 x3_2) := ⟨(by rw [hw]; exact (by (with_reducible repeat (first | apply Kd.R_alloc | apply Kd.R_drewN | apply Kd.R_drew)); exact Kd.R_mono (Kd.R_far (p := ⟨gb608, 3, none⟩) (Kd.R_far (p := ⟨gb608, 2, none⟩) (Kd.R_far (p := ⟨gb608, 1, none⟩) (Kd.R_far (p := ⟨gb608, 0, none⟩) (Kd.R_types HO_3.out BK608.out (by decide)) (fun _ hk => hk.2) (.int .i64 ((rd_T50 l0 x37_2).f0))) (fun _ hk => hk.2) (.int .i64 ((rd_T50 l0 x37_2).f1))) (fun _ hk => hk.2) (.float .f64 ((rd_T50 l0 x37_2).f2))) (fun _ hk => hk.2) (.string ((rd_T50 l0 x37_2).f3))) (fun _ hk => trivial)))⟩; have n1_ : Aside0 (w31.heap[gb608]? = some (.cells #[.int .i64 ((rd_T50 l0 x37_2).f0), .int .i64 ((rd_T50 l0 x37_2).f1), .float .f64 ((rd_T50 l0 x37_2).f2), .string ((rd_T50 l0 x37_2).f3)] 50 (0, 0))) := ⟨(by rw [hw]; exact (by refine rp ?_; refine blk_put (cs := #[.int .i64 ((rd_T50 l0 x37_2).f0), .int .i64 ((rd_T50 l0 x37_2).f1), .float .f64 ((rd_T50 l0 x37_2).f2), .string (⟨#[]⟩ : ByteArray)]) ?_ 3 _ rfl; refine rp ?_; refine blk_put (cs := #[.int .i64 ((rd_T50 l0 x37_2).f0), .int .i64 ((rd_T50 l0 x37_2).f1), .float .f64 0, .string (⟨#[]⟩ : ByteArray)]) ?_ 2 _ rfl; refine rp ?_; refine blk_put (cs := #[.int .i64 ((rd_T50 l0 x37_2).f0), .int .i64 0, .float .f64 0, .string (⟨#[]⟩ : ByteArray)]) ?_ 1 _ rfl; refine rp ?_; refine blk_put (cs := #[.int .i64 0, .int .i64 0, .float .f64 0, .string (⟨#[]⟩ : ByteArray)]) ?_ 0 _ rfl; exact bk BK608))⟩; have n2_ : Aside0 (Below w.heap.size w w31) := ⟨(by rw [hw]; exact (bl HB))⟩; clear hw; clear HO_3; clear BK608; clear HB; have HO_3 := n0_; have BK608 := n1_; have HB := n2_; clear n0_ n1_ n2_; obtain ⟨Z32_0, Z32_1, Z32_2, Z32_3, Y32_0, Y32_1, Y32_2, Y32_3⟩ := bq4 BK608; obtain ⟨Ao33, co33, eo33⟩ := Kd.R_slice HO_3.out; subst eo33) | ((with_reducible refine gate_callee (f := 120) rfl ?_); refine goesL_ (some 43) rfl rfl Tryd.func120 (by kernel_rfl) rfl #[.slice Ao33 x3_2.length co33, .agg #[.int .i64 ((rd_T50 l0 x37_2).f0), .int .i64 ((rd_T50 l0 x37_2).f1), .float .f64 ((rd_T50 l0 x37_2).f2), .string ((rd_T50 l0 x37_2).f3)]] rfl ar ?_; (with_reducible refine (row_put.calls k2 (fun k_ => some k_ = (.slice Ao33 x3_2.length co33 : Value).ownBlock) (.slice Ao33 x3_2.length co33) x3_2 ((rd_T50 l0 x37_2).f0) ((rd_T50 l0 x37_2).f1) ((rd_T50 l0 x37_2).f2) ((rd_T50 l0 x37_2).f3) t609 w _ ?side1 ?side2 A28.out).mono ?_); (case side1 => repeat (first | (with_reducible first | exact HB.out | apply below_alloc | apply pw_below_drewN | apply below_drew1 | refine below_set ?_ GE608.out) | exact HB.out)); (case side2 => exact Kd.R_tight rfl HO_3.out); rintro e w34 ⟨v610, rfl, ho0, hb, hkp⟩; refine ⟨_, rfl, ?_⟩; have n0_ := am (blk_kept (bk BK608) hkp (fun hs_ => (fun e_ => (Kd.R_ne HO_3.out BK608.out (by decide)) e_) hs_)); have n1_ := am (Kd.R_mono (ok' := fun k_ => True) ho0 (fun k_ hk_ => trivial)); have n2_ := am (hb); clear BK608; clear HB; clear HO_3; have BK608 := n0_; have HO611 := n1_; have HB := n2_; clear n0_ n1_ n2_; (try clear hb); (try clear hkp); (try clear ho0)))
                      go_roundg k2
                      case measure => have := HK1.out; have := HK2.out; omega
                      case rel => exact ⟨(t609), (wrap64 (x37_2 + 1)), eb, H', ⟨by have := HK1.out; have := HK2.out; omega⟩, ⟨Kd.rr HO611.out⟩, ⟨bl HB⟩⟩
                    · rw [if_neg c27] at H
                      exact absurd H (by simp)
                  · rw [if_neg c26] at H
                    exact absurd H (by simp)
                · rw [if_neg c25] at H
                  have c25b0 : decide (x37_2 < (l0.length : Int)) = false := decide_eq_false c25
                  clear c25
                  obtain rfl := Option.some.inj H
                  go_wp2
                  go_ret
                  exact ⟨_, by first | rfl | (simp [errW_none, errW_some] <;> rfl) | (simp only [← hji2]; first | rfl | (simp [errW_none, errW_some] <;> rfl)) | (simp [*, errW_none, errW_some] <;> rfl), Kd.rr HO_3.out, bl HB⟩
    · rw [if_neg c4] at H
      exact absurd H (by simp)
  · rw [if_neg c3] at H
    exact absurd H (by simp)
def row_Encode.f (k : Nat) (a0_0 : ByteArray) (l0_1 : List (S105)) (l0_2 : List Int) (l0_3 : List (S115)) (l0_4 : List (S139)) (l1 : List (S50)) : Option (ByteArray × Int) := (schema_Admits.f a0_0 l0_1 l0_2 l0_3 l0_4 l1).bind fun t613 => (if t613 = 0 then ((row_encode.f k l1).bind fun t614 => (if (t614.length : Int) > 65536 then (some ((⟨#[]⟩ : ByteArray), 3)) else (some (strOfNums t614, 0)))) else (some ((⟨#[]⟩ : ByteArray), t613)))
set_option maxHeartbeats 8000000 in
set_option maxRecDepth 100000 in
theorem row_Encode.calls (k : Nat) (a0_0 : ByteArray) (A0_1 : Option Addr) (c0_1 : Nat) (l0_1 : List (S105)) (A0_2 : Option Addr) (c0_2 : Nat) (l0_2 : List Int) (A0_3 : Option Addr) (c0_3 : Nat) (l0_3 : List (S115)) (A0_4 : Option Addr) (c0_4 : Nat) (l0_4 : List (S139)) (A1 : Option Addr) (c1 : Nat) (l1 : List (S50)) (r1 : ByteArray) (r2 : Int) (w : World) (hr0_1 : Kd.C k105 w A0_1 l0_1.length l0_1) (hc0_1 : l0_1.length ≤ c0_1) (hr0_2 : Kd.C (Kd.int .i64) w A0_2 l0_2.length l0_2) (hc0_2 : l0_2.length ≤ c0_2) (hr0_3 : Kd.C k115 w A0_3 l0_3.length l0_3) (hc0_3 : l0_3.length ≤ c0_3) (hr0_4 : Kd.C k139 w A0_4 l0_4.length l0_4) (hc0_4 : l0_4.length ≤ c0_4) (hr1 : Kd.C k50 w A1 l1.length l1) (hc1 : l1.length ≤ c1) (hG : Glob w) (h : row_Encode.f k a0_0 l0_1 l0_2 l0_3 l0_4 l1 = some (r1, r2)) :
    Calls Tryd.prog 52 #[.agg #[.string a0_0, .slice A0_1 l0_1.length c0_1, .slice A0_2 l0_2.length c0_2, .slice A0_3 l0_3.length c0_3, .slice A0_4 l0_4.length c0_4], .slice A1 l1.length c1] w fun e w' => e = .returned (.tuple #[.string r1, .int .i64 r2]) ∧ Below w.heap.size w w' := by
  have hu65 := Tryd.underlying65
  have HR0_1 := am hr0_1
  have HC0_1 := am hc0_1
  clear hr0_1 hc0_1
  have HR0_2 := am hr0_2
  have HC0_2 := am hc0_2
  clear hr0_2 hc0_2
  have HR0_3 := am hr0_3
  have HC0_3 := am hc0_3
  clear hr0_3 hc0_3
  have HR0_4 := am hr0_4
  have HC0_4 := am hc0_4
  clear hr0_4 hc0_4
  have HR1 := am hr1
  have HC1 := am hc1
  clear hr1 hc1
  have HG := am hG
  clear hG
  have HB := am (Below.refl w.heap.size w)
  have H : ((schema_Admits.f a0_0 l0_1 l0_2 l0_3 l0_4 l1).bind fun t613 => (if t613 = 0 then ((row_encode.f k l1).bind fun t614 => (if (t614.length : Int) > 65536 then (some ((⟨#[]⟩ : ByteArray), 3)) else (some (strOfNums t614, 0)))) else (some ((⟨#[]⟩ : ByteArray), t613)))) = some (r1, r2) := h
  clear h
  replace H := Option.bind_eq_some_iff.mp H
  obtain ⟨t613, A30, H⟩ := H
  replace H : (if t613 = 0 then ((row_encode.f k l1).bind fun t614 => (if (t614.length : Int) > 65536 then (some ((⟨#[]⟩ : ByteArray), 3)) else (some (strOfNums t614, 0)))) else (some ((⟨#[]⟩ : ByteArray), t613))) = some (r1, r2) := H
  have A3 := am A30
  clear A30
  by_cases c4 : t613 = 0
  · rw [if_pos c4] at H
    have c4b0 : (t613 == 0) = true := beq_iff_eq.mpr c4
    have c4b1 : (t613 != 0) = false := bne_eq_false_iff_eq.mpr c4
    clear c4
    replace H := Option.bind_eq_some_iff.mp H
    obtain ⟨t614, A50, H⟩ := H
    replace H : (if (t614.length : Int) > 65536 then (some ((⟨#[]⟩ : ByteArray), 3)) else (some (strOfNums t614, 0))) = some (r1, r2) := H
    have A5 := am A50
    clear A50
    by_cases c6 : (t614.length : Int) > 65536
    · rw [if_pos c6] at H
      have c6b0 : decide (65536 < (t614.length : Int)) = true := decide_eq_true c6
      have c6b1 : decide (65536 < t614.length) = true := decide_eq_true (by omega)
      clear c6
      simp only [Option.some.injEq, Prod.mk.injEq] at H
      obtain ⟨rfl, rfl⟩ := H
      go_enter Tryd.func52, Tryd.ntmps52
      go_wp2_with (first | ((with_reducible refine gate_dst (N := 2) rfl ?_); refine box_event rfl (N := 2) rfl (cs := #[.string a0_0, .slice A0_1 l0_1.length c0_1, .slice A0_2 l0_2.length c0_2, .slice A0_3 l0_3.length c0_3, .slice A0_4 l0_4.length c0_4]) (t := 65) gs ?_; intro gb612 hg w7 hbox hb; have BK612 := am (hbox); have GW612 := gw hg HB; have GE612 := gw hg HB; replace HB := sb HB hb; clear hb hbox hg; obtain ⟨Z8_0, Z8_1, Z8_2, Z8_3, Z8_4, Y8_0, Y8_1, Y8_2, Y8_3, Y8_4⟩ := bq5 BK612) | ((with_reducible refine gate_callee (f := 83) rfl ?_); refine goesL_ (some 10) rfl rfl Tryd.func83 (by kernel_rfl) rfl #[.agg #[.string a0_0, .slice A0_1 l0_1.length c0_1, .slice A0_2 l0_2.length c0_2, .slice A0_3 l0_3.length c0_3, .slice A0_4 l0_4.length c0_4], .slice A1 l1.length c1] rfl ar ?_; (with_reducible refine (schema_Admits.calls a0_0 _ _ l0_1 _ _ l0_2 _ _ l0_3 _ _ l0_4 _ _ l1 t613 _ (Kd.cb HR0_1 HB) HC0_1.out (Kd.cb HR0_2 HB) HC0_2.out (Kd.cb HR0_3 HB) HC0_3.out (Kd.cb HR0_4 HB) HC0_4.out (Kd.cb HR1 HB) HC1.out (Glob.below HG.out (bl HB)) A3.out).mono ?_); rintro e w9 ⟨rfl, hb⟩; refine ⟨_, rfl, ?_⟩; replace BK612 := kb BK612 hb; replace HB := sb HB hb; (try clear hb); (try clear hb2 hk hi)) | ((with_reducible refine gate_callee (f := 84) rfl ?_); refine goesL_ (some 15) rfl rfl Tryd.func84 (by kernel_rfl) rfl #[.slice A1 l1.length c1] rfl ar ?_; (with_reducible refine (row_encode.calls k _ _ l1 t614 _ (Kd.cb HR1 HB) HC1.out A5.out).mono ?_); rintro e w10 ⟨v615, rfl, ho0, hb⟩; refine ⟨_, rfl, ?_⟩; have n0_ := am (Kd.R_lower ho0 (below_size (bl HB))); have n1_ := kb BK612 hb; have n2_ := sb HB hb; clear BK612; clear HB; have HO616 := n0_; have BK612 := n1_; have HB := n2_; clear n0_ n1_ n2_; (try clear hb); (try clear hb2 hk hi); (try clear ho0); obtain ⟨Ao11, co11, eo11⟩ := Kd.R_slice HO616.out; subst eo11))
      go_ret2
      exact ⟨er, bl HB⟩
    · rw [if_neg c6] at H
      have c6b0 : decide (65536 < (t614.length : Int)) = false := decide_eq_false c6
      have c6b1 : decide (65536 < t614.length) = false := decide_eq_false (by omega)
      clear c6
      simp only [Option.some.injEq, Prod.mk.injEq] at H
      obtain ⟨rfl, rfl⟩ := H
      go_enter Tryd.func52, Tryd.ntmps52
      go_wp2_with (first | ((with_reducible refine gate_dst (N := 2) rfl ?_); refine box_event rfl (N := 2) rfl (cs := #[.string a0_0, .slice A0_1 l0_1.length c0_1, .slice A0_2 l0_2.length c0_2, .slice A0_3 l0_3.length c0_3, .slice A0_4 l0_4.length c0_4]) (t := 65) gs ?_; intro gb612 hg w12 hbox hb; have BK612 := am (hbox); have GW612 := gw hg HB; have GE612 := gw hg HB; replace HB := sb HB hb; clear hb hbox hg; obtain ⟨Z13_0, Z13_1, Z13_2, Z13_3, Z13_4, Y13_0, Y13_1, Y13_2, Y13_3, Y13_4⟩ := bq5 BK612) | ((with_reducible refine gate_callee (f := 83) rfl ?_); refine goesL_ (some 10) rfl rfl Tryd.func83 (by kernel_rfl) rfl #[.agg #[.string a0_0, .slice A0_1 l0_1.length c0_1, .slice A0_2 l0_2.length c0_2, .slice A0_3 l0_3.length c0_3, .slice A0_4 l0_4.length c0_4], .slice A1 l1.length c1] rfl ar ?_; (with_reducible refine (schema_Admits.calls a0_0 _ _ l0_1 _ _ l0_2 _ _ l0_3 _ _ l0_4 _ _ l1 t613 _ (Kd.cb HR0_1 HB) HC0_1.out (Kd.cb HR0_2 HB) HC0_2.out (Kd.cb HR0_3 HB) HC0_3.out (Kd.cb HR0_4 HB) HC0_4.out (Kd.cb HR1 HB) HC1.out (Glob.below HG.out (bl HB)) A3.out).mono ?_); rintro e w14 ⟨rfl, hb⟩; refine ⟨_, rfl, ?_⟩; replace BK612 := kb BK612 hb; replace HB := sb HB hb; (try clear hb); (try clear hb2 hk hi)) | ((with_reducible refine gate_callee (f := 84) rfl ?_); refine goesL_ (some 15) rfl rfl Tryd.func84 (by kernel_rfl) rfl #[.slice A1 l1.length c1] rfl ar ?_; (with_reducible refine (row_encode.calls k _ _ l1 t614 _ (Kd.cb HR1 HB) HC1.out A5.out).mono ?_); rintro e w15 ⟨v615, rfl, ho0, hb⟩; refine ⟨_, rfl, ?_⟩; have n0_ := am (Kd.R_lower ho0 (below_size (bl HB))); have n1_ := kb BK612 hb; have n2_ := sb HB hb; clear BK612; clear HB; have HO616 := n0_; have BK612 := n1_; have HB := n2_; clear n0_ n1_ n2_; (try clear hb); (try clear hb2 hk hi); (try clear ho0); obtain ⟨Ao16, co16, eo16⟩ := Kd.R_slice HO616.out; subst eo16; have hcv17 := own_string (P := Tryd.prog) Tryd.underlying80 Tryd.underlying5 Tryd.underlying9 (Kd.own_of_R HO616.out)))
      go_ret2
      exact ⟨er, bl HB⟩
  · rw [if_neg c4] at H
    have c4b0 : (t613 == 0) = false := beq_eq_false_iff_ne.mpr c4
    have c4b1 : (t613 != 0) = true := bne_iff_ne.mpr c4
    simp only [Option.some.injEq, Prod.mk.injEq] at H
    obtain ⟨rfl, rfl⟩ := H
    go_enter Tryd.func52, Tryd.ntmps52
    go_wp2_with (first | ((with_reducible refine gate_dst (N := 2) rfl ?_); refine box_event rfl (N := 2) rfl (cs := #[.string a0_0, .slice A0_1 l0_1.length c0_1, .slice A0_2 l0_2.length c0_2, .slice A0_3 l0_3.length c0_3, .slice A0_4 l0_4.length c0_4]) (t := 65) gs ?_; intro gb612 hg w18 hbox hb; have BK612 := am (hbox); have GW612 := gw hg HB; have GE612 := gw hg HB; replace HB := sb HB hb; clear hb hbox hg; obtain ⟨Z19_0, Z19_1, Z19_2, Z19_3, Z19_4, Y19_0, Y19_1, Y19_2, Y19_3, Y19_4⟩ := bq5 BK612) | ((with_reducible refine gate_callee (f := 83) rfl ?_); refine goesL_ (some 10) rfl rfl Tryd.func83 (by kernel_rfl) rfl #[.agg #[.string a0_0, .slice A0_1 l0_1.length c0_1, .slice A0_2 l0_2.length c0_2, .slice A0_3 l0_3.length c0_3, .slice A0_4 l0_4.length c0_4], .slice A1 l1.length c1] rfl ar ?_; (with_reducible refine (schema_Admits.calls a0_0 _ _ l0_1 _ _ l0_2 _ _ l0_3 _ _ l0_4 _ _ l1 t613 _ (Kd.cb HR0_1 HB) HC0_1.out (Kd.cb HR0_2 HB) HC0_2.out (Kd.cb HR0_3 HB) HC0_3.out (Kd.cb HR0_4 HB) HC0_4.out (Kd.cb HR1 HB) HC1.out (Glob.below HG.out (bl HB)) A3.out).mono ?_); rintro e w20 ⟨rfl, hb⟩; refine ⟨_, rfl, ?_⟩; replace BK612 := kb BK612 hb; replace HB := sb HB hb; (try clear hb); (try clear hb2 hk hi)))
    go_ret2
    exact ⟨er, bl HB⟩
end Go.Proofs.YtpiifdbicibelaaDoor.PA
end
