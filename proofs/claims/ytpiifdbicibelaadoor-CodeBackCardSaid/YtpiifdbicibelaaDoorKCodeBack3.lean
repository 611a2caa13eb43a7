/- Part 4 of what the proof of CodeBack stands on: words for walks, printed functions with their contracts, plain laws. -/
import Derived.Test.YtpiifdbicibelaaDoorKCodeBack2
section
namespace Go.Proofs.YtpiifdbicibelaaDoorW.PrintWords
open Go.RowKit Go.Proofs
set_option linter.unusedVariables false
set_option linter.unusedSimpArgs false
set_option maxHeartbeats 1000000 in
set_option maxRecDepth 100000 in
theorem copyCheck_used (b : Nat) (w : World) (h0 : w.cell? ⟨b, 0, none⟩ = some (.pointer (some ⟨b, 0, none⟩))) :
    Calls Tryd.prog 176 #[.pointer (some ⟨b, 0, none⟩)] w fun e w' => e = .returned (.tuple #[]) ∧ w' = w := by
  obtain ⟨j, hj, _⟩ := Option.map_eq_some_iff.1 (show (Tryd.prog.info? 153).map (·.size) = some 2 by kernel_rfl)
  go_enter Tryd.func176, Tryd.ntmps176
  go_wp2
  rw [Lib.run_neq_ptr_same w _ Tryd.underlying151 hj]
  go_wp2
  go_end0
  exact ⟨rfl, rfl⟩
set_option maxHeartbeats 1000000 in
set_option maxRecDepth 100000 in
theorem copyCheck_fresh (b : Nat) (w : World) (h0 : w.cell? ⟨b, 0, none⟩ = some (.pointer none)) (hsh : w.shape? b = some (153, 2)) (hfz : w.frozen? ⟨b, 0, none⟩ = false) :
    Calls Tryd.prog 176 #[.pointer (some ⟨b, 0, none⟩)] w fun e w' => e = .returned (.tuple #[]) ∧ w' = w.setCell ⟨b, 0, none⟩ (.pointer (some ⟨b, 0, none⟩)) := by
  obtain ⟨j, hj, hjs⟩ := Option.map_eq_some_iff.1 (show (Tryd.prog.info? 153).map (·.size) = some 2 by kernel_rfl)
  have hlies := Tryd.Builder_Extra_169.liesBuilder
  go_enter Tryd.func176, Tryd.ntmps176
  go_wp2
  rw [Lib.run_to_unsafe w ⟨b, 0, none⟩ Tryd.underlying151 Tryd.underlying195 hj (by rw [hjs]; decide) hsh (Nat.zero_lt_succ 1)]
  simp only [Result.andThen]
  rw [Oper.upon_value]
  go_wp2
  rw [run_callFunc_extern Tryd.func190 (by kernel_rfl) (by kernel_rfl) (by kernel_rfl) (e := Extern.AbiNoEscape.same) (by kernel_rfl)]
  rw [Lib.run_noEscape]
  simp only [Result.andThen]
  rw [Oper.upon_value]
  go_wp2
  rw [Lib.run_from_unsafe w ⟨b, 0, none⟩ Tryd.underlying195 Tryd.underlying151 hj hsh hlies]
  simp only [Result.andThen]
  rw [Oper.upon_value]
  go_wp2
  go_end0
  exact ⟨rfl, rfl⟩
theorem copyCheck_any (B b : Nat) (bs : List Value) (w : World) (h : Lib.IsBuilderF 153 5 B b bs w) :
    Calls Tryd.prog 176 #[.pointer (some ⟨b, 0, none⟩)] w fun e w' => e = .returned (.tuple #[]) ∧ (Lib.BuilderAtF 153 5 B b (.pointer (some ⟨b, 0, none⟩)) bs w' ∧ Below B w w') := by
  rcases h with h | h
  · refine (copyCheck_fresh b w h.cell0 h.shape h.frozen0).mono ?_
    rintro e w' ⟨rfl, rfl⟩
    exact ⟨rfl, h.used _, (Below.refl B w).setCell (p := ⟨b, 0, none⟩) h.1 _⟩
  · refine (copyCheck_used b w h.cell0).mono ?_
    rintro e w' ⟨rfl, rfl⟩
    exact ⟨rfl, h, Below.refl B _⟩
theorem info5_ : (Tryd.prog.info? 5).map (fun i => (i.zero, i.size, i.bytes)) = some (some (.int .u8 0), 1, 1) := by kernel_rfl
set_option maxHeartbeats 2000000 in
set_option maxRecDepth 100000 in
theorem writeByte_any (B b : Nat) (bs : List Value) (c : Int) (w : World) (h : Lib.IsBuilderF 153 5 B b bs w) (hlen : bs.length + 1 ≤ 140737488355328) (hBw : B ≤ w.heap.size) :
    Calls Tryd.prog 145 #[.pointer (some ⟨b, 0, none⟩), .int .u8 c] w fun e w' => e = .returned .nilIface ∧ (Lib.IsBuilderF 153 5 B b (bs ++ [.int .u8 c]) w' ∧ Below B w w') := by
  obtain ⟨i0, hi, hz0, hz1, hz2⟩ := info_parts info5_
  go_enter Tryd.func145, Tryd.ntmps145
  go_wp2_with fail
  refine (copyCheck_any B b bs _ h).mono ?_
  rintro e w1 ⟨rfl, h1, hb1⟩
  obtain ⟨hB, v, hbk, hown, hne⟩ := h1
  have c0 : w1.cell? ⟨b, 0, none⟩ = some (.pointer (some ⟨b, 0, none⟩)) := by rw [Lib.cell_of_heap hbk]; rfl
  have c1 : w1.cell? ⟨b, 1, none⟩ = some v := by rw [Lib.cell_of_heap hbk]; rfl
  go_wp2_with (at_builtin; refine wpList_append_ownF _ rfl _ _ 80 rfl B 5 i0 (.int .u8 0) 1 1 Tryd.underlying80 hi hz0 hz1 hz2 rfl (by decide) _ _ _ rfl (hown.alloc _) ⟨w1.heap.size, 0, none⟩ 1 1 [.int .u8 c] rfl rfl ?c1 ?c2 ?c3 ?c4 ?c5 ?_)
  case c1 =>
    intro j u hj
    match j, hj with
    | 0, hj => simp at hj; subst hj; simp [Addr.add]
  case c2 => intro u hu; simp at hu; subst hu; rfl
  case c3 => unfold maxLen; omega
  case c4 => omega
  case c5 => have := hb1.size; simp; omega
  intro v' w2 hown' hgrow _
  have hlt : b < w1.heap.size := by
    rcases Nat.lt_or_ge b w1.heap.size with h' | h'
    · exact h'
    · simp [Array.getElem?_eq_none h'] at hbk
  have hb2 : w2.heap[b]? = some (.cells #[.pointer (some ⟨b, 0, none⟩), v] 153 (0, 0)) := by
    rw [hgrow.block b (by simp; omega) (fun e => hne e.symm), Lib.alloc_old w1 _ b hlt]
    exact hbk
  have d0 : w2.cell? ⟨b, 0, none⟩ = some (.pointer (some ⟨b, 0, none⟩)) := by rw [Lib.cell_of_heap hb2]; rfl
  have d1 : w2.cell? ⟨b, 1, none⟩ = some v := by rw [Lib.cell_of_heap hb2]; rfl
  have f1 : w2.frozen? ⟨b, 1, none⟩ = false := Lib.frozen_of_heap hb2 1
  obtain ⟨g, cap, rfl⟩ : ∃ g cap, v' = .slice (some ⟨g, 0, none⟩) (bs.length + 1) cap := by
    rcases hown'.2 with ⟨_, h0⟩ | ⟨g, cap, cur, fz, hv, _⟩
    · omega
    · exact ⟨g, cap, hv⟩
  go_wp2
  go_ret
  refine ⟨rfl, .inr ?_, ?_⟩
  · exact Lib.BuilderAtF.put (T := 153) (e := 5) hB hb2 (bs' := bs ++ [.int .u8 c]) (by simpa using hown') (by decide)
  · exact ((hb1.alloc (by have := hb1.size; omega) _).grown hgrow (by have := hb1.size; simp; omega) (fun k hk => (hown.lt k hk).1)).setCell (p := ⟨b, 1, none⟩) hB _
/-- A text off the begin of some bytes: a zero with 255 behind it is a zero; a zero alone ends it. -/
def textOff : List UInt8 → List UInt8 → Option (List UInt8 × List UInt8)
  | _, [] => none
  | acc, 0 :: 255 :: l => textOff (acc ++ [0]) l
  | acc, 0 :: l => some (acc, l)
  | acc, b :: l => textOff (acc ++ [b]) l
/-- vellum/code.getString -/
def code_getString.f (s : ByteArray) : Option (ByteArray × ByteArray × Bool) :=
  if s.size ≤ 140737488355320 then some (match textOff [] s.data.toList with | some (t, l) => (⟨t.toArray⟩, ⟨l.toArray⟩, true) | none => ((⟨#[]⟩ : ByteArray), (⟨#[]⟩ : ByteArray), false)) else none
theorem textOff_ne {acc : List UInt8} {b : UInt8} {l : List UInt8} (h : b ≠ 0) : textOff acc (b :: l) = textOff (acc ++ [b]) l := by
  rw [textOff.eq_4]
  · intro l' h1 h2; exact h h1
  · intro h1; exact h h1
theorem textOff_zero {acc l : List UInt8} (h : ∀ l', l ≠ 255 :: l') : textOff acc (0 :: l) = some (acc, l) := by
  rw [textOff.eq_3]
  intro l' h1; exact h l' h1
theorem extract_tail (s : ByteArray) (i : Nat) : s.extract i s.size = ⟨(s.data.toList.drop i).toArray⟩ := by
  apply Go.WideShapes.bytes_inj
  simp [ByteArray.data_extract]
  rw [List.take_of_length_le (by simp)]
theorem string_any (B b : Nat) (l : List UInt8) (w : World) (h : Lib.IsBuilderF 153 5 B b (Lib.byteCells l) w) (hBw : B ≤ w.heap.size) :
    Calls Tryd.prog 146 #[.pointer (some ⟨b, 0, none⟩)] w fun e w' => e = .returned (.string ⟨l.toArray⟩) ∧ Below B w w' :=
  (Tryd.Builder_String_any_k B b l w h hBw).mono fun _ _ h => ⟨h.1, h.2.2.1⟩
set_option maxHeartbeats 4000000 in
set_option maxRecDepth 100000 in
theorem code_getString.calls (a0 : ByteArray) (r1 r2 : ByteArray) (r3 : Bool) (w : World) (h : code_getString.f a0 = some (r1, r2, r3)) :
    Calls Tryd.prog 113 #[.string a0] w fun e w' => e = .returned (.tuple #[.string r1, .string r2, .bool r3]) ∧ Below w.heap.size w w' := by
  unfold code_getString.f at h
  split at h
  case isFalse => cases h
  rename_i hsz
  have HR := Aside0.mk (Option.some.inj h)
  clear h
  obtain ⟨R, hR⟩ : ∃ R, R = textOff [] a0.data.toList := ⟨_, rfl⟩
  rw [← hR] at HR
  have HRR := Aside0.mk hR
  clear hR
  have hlen : a0.data.toList.length = a0.size := by simp
  have HL := Aside0.mk hlen
  clear hlen
  go_enter Tryd.func113, Tryd.ntmps113
  go_wp2
  go_loopg [6] a0.size (fun gg s6 wr => ∃ (i : Nat) (acc : List UInt8), s6 = .int .i64 i ∧ Aside0 (i ≤ a0.size) ∧ Aside0 (a0.size - i ≤ gg) ∧ Aside0 (textOff acc (a0.data.toList.drop i) = R) ∧ Aside0 (acc.length ≤ i) ∧ Aside0 (Lib.IsBuilderF 153 5 w.heap.size w.heap.size (Lib.byteCells acc) wr) ∧ Aside0 (Below w.heap.size w wr))
  case atStart =>
    refine ⟨0, [], rfl, ⟨Nat.zero_le _⟩, ⟨by omega⟩, ⟨HRR.out.symm⟩, ⟨Nat.zero_le _⟩, ⟨.inl ⟨Nat.le_refl _, .slice none 0 0, by rw [heap_alloc_new], World.ownsRowF_nil _ _ _ _, by simp [Value.ownBlock]⟩⟩, ⟨(Below.refl _ _).alloc (Nat.le_refl _) _⟩⟩
  case round =>
    obtain ⟨i, acc, rfl, HI, HM, HT, HA, HB, HW⟩ := hrel
    have hi := HI.out
    by_cases hlt : i < a0.size
    · have hltz : (i : Int) < (a0.size : Int) := by omega
      have hdrop := List.drop_eq_getElem_cons (l := a0.data.toList) (i := i) (by rw [HL.out]; exact hlt)
      have hx0 : ∀ h : i < a0.size, (((a0[i]'h).toNat : Nat) : Int) = (((a0.data.toList[i]'(by rw [HL.out]; exact hlt)).toNat : Nat) : Int) := fun h => rfl
      generalize a0.data.toList[i]'(by rw [HL.out]; exact hlt) = b at hdrop hx0
      have HD := Aside0.mk hdrop
      clear hdrop
      obtain ⟨x, hxb⟩ : ∃ x : Int, x = (b.toNat : Int) := ⟨_, rfl⟩
      have hx : ∀ h : i < a0.size, (((a0[i]'h).toNat : Nat) : Int) = x := fun h => (hx0 h).trans hxb.symm
      have HX := Aside0.mk hxb
      clear hx0 hxb
      by_cases h0 : b = 0
      · subst h0
        have e0 : x = 0 := HX.out
        have c0 : (x == 0) = true := beq_iff_eq.mpr e0
        have c1 : (x != 0) = false := bne_eq_false_iff_eq.mpr e0
        clear e0
        by_cases h2 : i + 1 < a0.size
        · have h2z : (i : Int) + 1 < (a0.size : Int) := by omega
          have hdrop := List.drop_eq_getElem_cons (l := a0.data.toList) (i := i + 1) (by rw [HL.out]; exact h2)
          have hy0 : ∀ h : i + 1 < a0.size, (((a0[i + 1]'h).toNat : Nat) : Int) = (((a0.data.toList[i + 1]'(by rw [HL.out]; exact h2)).toNat : Nat) : Int) := fun h => rfl
          generalize a0.data.toList[i + 1]'(by rw [HL.out]; exact h2) = b2 at hdrop hy0
          have HD2 := Aside0.mk hdrop
          clear hdrop
          obtain ⟨y, hyb⟩ : ∃ y : Int, y = (b2.toNat : Int) := ⟨_, rfl⟩
          have hy : ∀ h : i + 1 < a0.size, (((a0[i + 1]'h).toNat : Nat) : Int) = y := fun h => (hy0 h).trans hyb.symm
          have HY := Aside0.mk hyb
          clear hy0 hyb
          by_cases h3 : b2 = 255
          · subst h3
            have e0 : y = 255 := HY.out
            have d0 : (y == 255) = true := beq_iff_eq.mpr e0
            clear e0
            go_wp2_with fail
            refine (writeByte_any w.heap.size w.heap.size (Lib.byteCells acc) _ _ HB.out (by rw [Lib.byteCells_length]; have := HA.out; omega) HW.out.size).mono ?_
            rintro e w1 ⟨rfl, hB1, hW1⟩
            have HB1 := Aside0.mk hB1
            have HW1 := Aside0.mk hW1
            clear hB1 hW1
            go_wp2
            go_roundg (a0.size - (i + 2))
            case measure => have := HM.out; omega
            case rel =>
              refine ⟨i + 2, acc ++ [0], by go_num, ⟨by omega⟩, ⟨by omega⟩, ⟨?_⟩, ⟨by simp; have := HA.out; omega⟩, ⟨?_⟩, ⟨HW.out.trans HW1.out⟩⟩
              · rw [← HT.out, HD.out, HD2.out, textOff]
              · have e : Lib.byteCells (acc ++ [0]) = Lib.byteCells acc ++ [.int .u8 0] := by simp [Lib.byteCells]
                rw [e]; exact HB1.out
          · have e0 : ¬ y = 255 := by rw [HY.out]; intro hh; exact h3 (UInt8.toNat_inj.1 (show b2.toNat = 255 by omega))
            have d0 : (y == 255) = false := beq_eq_false_iff_ne.mpr e0
            clear e0
            have hn : R = some (acc, a0.data.toList.drop (i + 1)) := by
              rw [← HT.out, HD.out, textOff_zero]; intro l' hl
              rw [HD2.out] at hl
              injection hl with hl _
              exact h3 hl
            rw [hn] at HR
            have hr := HR.out
            simp only [Prod.mk.injEq] at hr
            obtain ⟨rfl, rfl, rfl⟩ := hr
            have hcon := string_any w.heap.size w.heap.size acc wr.drew HB.out HW.out.size
            have hex := extract_tail a0 (i + 1)
            have HE := Aside0.mk hex
            clear hex hn
            go_wp2
            have hwr : IntKind.i64.wrap ((i : Int) + 1) = (i : Int) + 1 := IntWalk.i64_in _ (by omega)
            have hw0 : 0 ≤ (i : Int) + 1 := by omega
            have hw1 : ((i : Int) + 1).toNat = i + 1 := by omega
            have hw2 : (i : Int) + 1 ≤ (a0.size : Int) := by omega
            go_region_with (go_at_call 146; refine hcon.mono ?_; rintro e w1 ⟨rfl, hW1⟩)
            all_goals
              go_wp2
              go_ret3
              refine ⟨?_, (below_drew1 HW.out).trans hW1⟩
              first | (rw [HE.out]; done) | (rw [HE.out]; rfl)
        · have h2z : ¬ (i : Int) + 1 < (a0.size : Int) := by omega
          have hn : R = some (acc, a0.data.toList.drop (i + 1)) := by
            rw [← HT.out, HD.out, textOff_zero]; intro l' hl
            rw [List.drop_of_length_le (by rw [HL.out]; omega)] at hl
            cases hl
          rw [hn] at HR
          have hr := HR.out
          simp only [Prod.mk.injEq] at hr
          obtain ⟨rfl, rfl, rfl⟩ := hr
          have hcon := string_any w.heap.size w.heap.size acc wr.drew HB.out HW.out.size
          have hex := extract_tail a0 (i + 1)
          have HE := Aside0.mk hex
          clear hex hn
          go_wp2
          have hwr : IntKind.i64.wrap ((i : Int) + 1) = (i : Int) + 1 := IntWalk.i64_in _ (by omega)
          have hw0 : 0 ≤ (i : Int) + 1 := by omega
          have hw1 : ((i : Int) + 1).toNat = i + 1 := by omega
          have hw2 : (i : Int) + 1 ≤ (a0.size : Int) := by omega
          go_region_with (go_at_call 146; refine hcon.mono ?_; rintro e w1 ⟨rfl, hW1⟩)
          all_goals
            go_wp2
            go_ret3
            refine ⟨?_, (below_drew1 HW.out).trans hW1⟩
            first | (rw [HE.out]; done) | (rw [HE.out]; rfl)
      · have e0 : ¬ x = 0 := by
          rw [HX.out]; intro hh; exact h0 (UInt8.toNat_inj.1 (show b.toNat = 0 by omega))
        have c0 : (x == 0) = false := beq_eq_false_iff_ne.mpr e0
        have c1 : (x != 0) = true := bne_iff_ne.mpr e0
        clear e0
        go_wp2_with fail
        refine (writeByte_any w.heap.size w.heap.size (Lib.byteCells acc) _ _ HB.out (by rw [Lib.byteCells_length]; have := HA.out; omega) HW.out.size).mono ?_
        rintro e w1 ⟨rfl, hB1, hW1⟩
        have HB1 := Aside0.mk hB1
        have HW1 := Aside0.mk hW1
        clear hB1 hW1
        go_wp2
        go_roundg (a0.size - (i + 1))
        case measure => have := HM.out; omega
        case rel =>
          refine ⟨i + 1, acc ++ [b], by go_num, ⟨by omega⟩, ⟨by omega⟩, ⟨?_⟩, ⟨by simp; exact HA.out⟩, ⟨?_⟩, ⟨HW.out.trans HW1.out⟩⟩
          · rw [← HT.out, HD.out, textOff_ne h0]
          · have e : Lib.byteCells (acc ++ [b]) = Lib.byteCells acc ++ [.int .u8 x] := by rw [HX.out]; simp [Lib.byteCells]
            rw [e]; exact HB1.out
    · obtain rfl : i = a0.size := by omega
      have hltz : ¬ (a0.size : Int) < (a0.size : Int) := by omega
      have hn : R = none := by rw [← HT.out, List.drop_of_length_le (by rw [HL.out]; omega)]; rfl
      rw [hn] at HR
      have hr := HR.out
      simp only [Prod.mk.injEq] at hr
      obtain ⟨rfl, rfl, rfl⟩ := hr
      go_wp2
      go_ret3
      exact ⟨rfl, HW.out⟩
end Go.Proofs.YtpiifdbicibelaaDoorW.PrintWords
end
section
namespace Go.Proofs.YtpiifdbicibelaaDoor.PA
open Go.RowKit Go.Proofs.YtpiifdbicibelaaDoorW.PrintWords Go.Proofs.YtpiifdbicibelaaDoorW.PrintLast Go.Proofs.YtpiifdbicibelaaDoorW.PrintMore
attribute [local go_sem] max2_int min2_int max_two min_two max_three min_three max_four min_four   -- for this text's walks alone
set_option linter.unusedVariables false
set_option linter.unusedSimpArgs false
def code_get.j0 : Nat → ByteArray → Int → Bool → Option (Int × Int × Nat × ByteArray × ByteArray × Bool)
  | 0, _, _, _ => none
  | k + 1, x0, x5, x57 => if x57 = true then ((code_getString.f x0).bind fun bt493 => (if x5 = 6 then (if bt493.2.2 = true then ((value_Check.f k 5 0 0 bt493.1).bind fun t497 => (some (5, 0, 0, bt493.1, bt493.2.1, (t497 == 0)))) else (some (5, 0, 0, bt493.1, bt493.2.1, false))) else (if bt493.2.2 = true then ((value_Check.f k 4 0 0 bt493.1).bind fun t498 => (some (4, 0, 0, bt493.1, bt493.2.1, (t498 == 0)))) else (some (4, 0, 0, bt493.1, bt493.2.1, false))))) else (some (0, 0, 0, (⟨#[]⟩ : ByteArray), (⟨#[]⟩ : ByteArray), false))
def code_get.f (k : Nat) (a0 : ByteArray) : Option (Int × Int × Nat × ByteArray × ByteArray × Bool) := if 0 < (a0.size : Int) then (if 1 ≤ (a0.size : Int) then (if (bt a0 0) = 1 then (some (0, 0, 0, (⟨#[]⟩ : ByteArray), a0.extract 1 a0.size, true)) else (if (bt a0 0) = 2 then ((code_take.f (a0.extract 1 a0.size) 1).bind fun bt478 => (if bt478.2.2 = true then (if 0 < (bt478.1.size : Int) then (if (bt bt478.1 0) > 1 then (some (0, 0, 0, (⟨#[]⟩ : ByteArray), (⟨#[]⟩ : ByteArray), false)) else (some (1, wrap64 (bt bt478.1 0), 0, (⟨#[]⟩ : ByteArray), bt478.2.1, true))) else (none)) else (some (0, 0, 0, (⟨#[]⟩ : ByteArray), (⟨#[]⟩ : ByteArray), false)))) else (if (bt a0 0) = 3 then ((code_getInt.f k (a0.extract 1 a0.size)).bind fun bt481 => (some (bt481.1, bt481.2.1, bt481.2.2.1, bt481.2.2.2.1, bt481.2.2.2.2.1, bt481.2.2.2.2.2))) else (if (bt a0 0) = 4 then ((code_getFloat.f k (a0.extract 1 a0.size)).bind fun bt487 => (some (bt487.1, bt487.2.1, bt487.2.2.1, bt487.2.2.2.1, bt487.2.2.2.2.1, bt487.2.2.2.2.2))) else (if (bt a0 0) = 5 then (code_get.j0 k (a0.extract 1 a0.size) (bt a0 0) ((bt a0 0) == 5)) else (code_get.j0 k (a0.extract 1 a0.size) (bt a0 0) ((bt a0 0) == 6))))))) else (none)) else (none)
def code_get.T20 : Bool × List (List Nat × List Nat) := (true, [([], []), ([], []), ([], []), ([2], [2]), ([3], [3]), ([4, 3, 3], [3, 4]), ([5, 3], [3, 5]), ([3, 6], [3, 6]), ([0, 5, 0], [0]), ([1, 8, 0, 1, 8], [1]), ([7, 9, 0, 1, 2, 3, 4, 5, 6, 7, 8, 9], [7])])
def code_get.B20 : List Nat := [0, 0, 0, 4, 12, 28, 60, 124, 61, 319, 1023]
theorem code_get.tab20 : rtab .any (opsOf Tryd.f72 20) = code_get.T20 := by kernel_rfl
theorem code_get.bits20 : waitsOk code_get.T20.2 code_get.B20 = true := by kernel_rfl
set_option maxHeartbeats 8000000 in
set_option maxRecDepth 100000 in
theorem code_get.calls (k : Nat) (a0 : ByteArray) (r1 : Int) (r2 : Int) (r3 : Nat) (r4 : ByteArray) (r5 : ByteArray) (r6 : Bool) (w : World) (hG : Glob w) (h : code_get.f k a0 = some (r1, r2, r3, r4, r5, r6)) :
    Calls Tryd.prog 72 #[.string a0] w fun e w' => e = .returned (.tuple #[.agg #[.int .i64 r1, .int .i64 r2, .float .f64 r3, .string r4], .string r5, .bool r6]) ∧ Below w.heap.size w w' := by
  have hu50 := Tryd.underlying50
  have HG := Aside0.mk hG
  clear hG
  have HB := Aside0.mk (Below.refl w.heap.size w)
  have H : (if 0 < (a0.size : Int) then (if 1 ≤ (a0.size : Int) then (if (bt a0 0) = 1 then (some (0, 0, 0, (⟨#[]⟩ : ByteArray), a0.extract 1 a0.size, true)) else (if (bt a0 0) = 2 then ((code_take.f (a0.extract 1 a0.size) 1).bind fun bt478 => (if bt478.2.2 = true then (if 0 < (bt478.1.size : Int) then (if (bt bt478.1 0) > 1 then (some (0, 0, 0, (⟨#[]⟩ : ByteArray), (⟨#[]⟩ : ByteArray), false)) else (some (1, wrap64 (bt bt478.1 0), 0, (⟨#[]⟩ : ByteArray), bt478.2.1, true))) else (none)) else (some (0, 0, 0, (⟨#[]⟩ : ByteArray), (⟨#[]⟩ : ByteArray), false)))) else (if (bt a0 0) = 3 then ((code_getInt.f k (a0.extract 1 a0.size)).bind fun bt481 => (some (bt481.1, bt481.2.1, bt481.2.2.1, bt481.2.2.2.1, bt481.2.2.2.2.1, bt481.2.2.2.2.2))) else (if (bt a0 0) = 4 then ((code_getFloat.f k (a0.extract 1 a0.size)).bind fun bt487 => (some (bt487.1, bt487.2.1, bt487.2.2.1, bt487.2.2.2.1, bt487.2.2.2.2.1, bt487.2.2.2.2.2))) else (if (bt a0 0) = 5 then (code_get.j0 k (a0.extract 1 a0.size) (bt a0 0) ((bt a0 0) == 5)) else (code_get.j0 k (a0.extract 1 a0.size) (bt a0 0) ((bt a0 0) == 6))))))) else (none)) else (none)) = some (r1, r2, r3, r4, r5, r6) := h
  clear h
  by_cases c2 : 0 < (a0.size : Int)
  · rw [if_pos c2] at H
    have c2b0 : decide (0 < (a0.size : Int)) = true := decide_eq_true c2
    have c2b1 : decide (0 < a0.size) = true := decide_eq_true (by omega)
    clear c2
    by_cases c4 : 1 ≤ (a0.size : Int)
    · rw [if_pos c4] at H
      have c4b0 := eq_true c4
      have c4b1 : decide (1 ≤ (a0.size : Int)) = true := decide_eq_true c4
      clear c4
      by_cases c5 : (bt a0 0) = 1
      · rw [if_pos c5] at H
        have c5b0 : ((bt a0 0) == 1) = true := beq_iff_eq.mpr c5
        have c5b1 : ((bt a0 0) != 1) = false := bne_eq_false_iff_eq.mpr c5
        clear c5
        simp only [Option.some.injEq, Prod.mk.injEq] at H
        obtain ⟨rfl, rfl, rfl, rfl, rfl, rfl⟩ := H
        go_enter Tryd.func72, Tryd.ntmps72
        try go_wp2_with (first | ((with_reducible refine gate_dst (N := 2) rfl ?_); refine box_event ?hg (N := 2) ?hd (cs := #[.int .i64 0, .int .i64 0, .float .f64 0, .string (⟨#[]⟩ : ByteArray)]) (t := 50) ?hr ?_; (case hd => rfl); (case hg => rfl); (case hr => first | (go_simp; done) | (go_simp; rfl)); intro gb477 hg w6 hbox hb; have n0_ := Aside0.mk (below_step (by repeat (first | (with_reducible first | exact HB.out | apply below_alloc | apply pw_below_drewN | apply below_drew1) | exact HB.out)) hb); have n1_ := Aside0.mk (hbox); have n2_ := Aside0.mk ((by rw [hg]; exact (below_size (by repeat (first | (with_reducible first | exact HB.out | apply below_alloc | apply pw_below_drewN | apply below_drew1) | exact HB.out))) : w.heap.size ≤ gb477)); have n3_ := Aside0.mk ((by rw [hg]; exact (below_size (by repeat (first | (with_reducible first | exact HB.out | apply below_alloc | apply pw_below_drewN | apply below_drew1) | exact HB.out))) : w.heap.size ≤ gb477)); clear HB; have HB := n0_; have BK477 := n1_; have GW477 := n2_; have GE477 := n3_; clear n0_ n1_ n2_ n3_; clear hb hbox hg))
        have n0_ := Aside0.mk (blk_drew BK477.out)
        have n1_ := Aside0.mk (below_drew1 HB.out)
        clear BK477
        clear HB
        have BK477 := n0_
        have HB := n1_
        clear n0_ n1_
        have p3 : 0 ≤ (0 : Int) := (by omega)
        have q3 : 0 < a0.size := (by have : (0 : Int) < (a0.size : Int) := of_decide_eq_true (by first | (with_reducible assumption) | assumption); omega)
        have hx3 : ∀ h : 0 < a0.size, ((a0[0]'h).toNat : Int) = bt a0 0 := bt_at a0 0
        clear p3
        have qi3 : (0 < (a0.size : Int)) = True := eq_true (of_decide_eq_true (by first | (with_reducible assumption) | assumption))
        replace q3 := eq_true q3
        refine start_ (n := 6) (S := fun w' => True) (ds := []) #[false, false, false, false, false, false] (by kernel_rfl) rfl rfl trivial (fun hHeld => ?_)
        generalize w6.drew = w7 at BK477 HB hHeld ⊢
        refine pure_ (i := 0) (N := some 13) (v := ?_) (a' := ?_) #[true, false, false, false, false, false] rfl rfl (by kernel_rfl) (fun _ _ _ h => h) (Or.inl ⟨by rfl, ?_⟩) ?_ ?_
        rotate_left
        · intro w'
          go_simp
          with_reducible rfl
        rotate_left
        · simp only [Act.put, List.setIfInBounds_toArray, List.set_cons_zero, List.set_cons_succ, i64_w, i32_w]
          rfl
        refine pure_ (i := 2) (N := some 15) (v := ?_) (a' := ?_) #[true, false, true, false, false, false] rfl rfl (by kernel_rfl) (fun _ _ _ h => h) (Or.inl ⟨by rfl, ?_⟩) ?_ ?_
        rotate_left
        · intro w'
          go_simp
          with_reducible rfl
        rotate_left
        · simp only [Act.put, List.setIfInBounds_toArray, List.set_cons_zero, List.set_cons_succ, i64_w, i32_w]
          rfl
        refine pure_ (i := 3) (N := some 16) (v := ?_) (a' := ?_) #[true, false, true, true, false, false] rfl rfl (by kernel_rfl) (fun _ _ _ h => h) (Or.inl ⟨by rfl, ?_⟩) ?_ ?_
        rotate_left
        · intro w'
          go_simp
          with_reducible rfl
        rotate_left
        · simp only [Act.put, List.setIfInBounds_toArray, List.set_cons_zero, List.set_cons_succ, i64_w, i32_w]
          rfl
        refine take_ (i := 1) (N := some 14) (v := ?_) (a' := ?_) #[true, true, true, true, false, false] rfl rfl (by kernel_rfl) (fun _ _ _ h => h) (Or.inl ⟨by rfl, ?_⟩) hHeld ?_ ?_
        rotate_left
        · intro w' _
          go_simp
          with_reducible rfl
        rotate_left
        · simp only [Act.put, List.setIfInBounds_toArray, List.set_cons_zero, List.set_cons_succ, i64_w, i32_w]
          rfl
        refine pure_ (i := 4) (N := some 5) (v := ?_) (a' := ?_) #[true, true, true, true, true, false] rfl rfl (by kernel_rfl) (fun _ _ _ h => h) (Or.inl ⟨by rfl, ?_⟩) ?_ ?_
        rotate_left
        · intro w'
          go_simp
          with_reducible rfl
        rotate_left
        · simp only [Act.put, List.setIfInBounds_toArray, List.set_cons_zero, List.set_cons_succ, i64_w, i32_w]
          rfl
        refine pure_ (i := 5) (N := some 0) (v := ?_) (a' := ?_) #[true, true, true, true, true, true] rfl rfl (by kernel_rfl) (fun _ _ _ h => h) (Or.inl ⟨by rfl, ?_⟩) ?_ ?_
        rotate_left
        · intro w'
          go_simp
          with_reducible rfl
        rotate_left
        · simp only [Act.put, List.setIfInBounds_toArray, List.set_cons_zero, List.set_cons_succ, i64_w, i32_w]
          rfl
        refine done_ (by kernel_rfl) ?_
        have hcz8_0 : w7.cell? ⟨gb477, 0, none⟩ = some (.int .i64 0) := (blk_cell BK477.out 0).trans rfl
        have hcz8_1 : w7.cell? ⟨gb477, 1, none⟩ = some (.int .i64 0) := (blk_cell BK477.out 1).trans rfl
        have hcz8_2 : w7.cell? ⟨gb477, 2, none⟩ = some (.float .f64 0) := (blk_cell BK477.out 2).trans rfl
        have hcz8_3 : w7.cell? ⟨gb477, 3, none⟩ = some (.string (⟨#[]⟩ : ByteArray)) := (blk_cell BK477.out 3).trans rfl
        have hfz8_0 := blk_frozen BK477.out 0
        have hfz8_1 := blk_frozen BK477.out 1
        have hfz8_2 := blk_frozen BK477.out 2
        have hfz8_3 := blk_frozen BK477.out 3
        try go_wp2
        refine bodyPost_ret (results_ctt rfl _ _ gb477 50 #[.int .i64 0, .int .i64 0, .float .f64 0, .string (⟨#[]⟩ : ByteArray)] (0, 0) _ rfl (by (with_reducible repeat (first | refine blk_drewN ?_ _ | refine blk_drew ?_ | refine blk_alloc ?_ _)); refine blk_put (cs := #[.int .i64 0, .int .i64 0, .float .f64 0, .string (⟨#[]⟩ : ByteArray)]) ?_ 3 _ rfl; (with_reducible repeat (first | refine blk_drewN ?_ _ | refine blk_drew ?_ | refine blk_alloc ?_ _)); refine blk_put (cs := #[.int .i64 0, .int .i64 0, .float .f64 0, .string (⟨#[]⟩ : ByteArray)]) ?_ 2 _ rfl; (with_reducible repeat (first | refine blk_drewN ?_ _ | refine blk_drew ?_ | refine blk_alloc ?_ _)); refine blk_put (cs := #[.int .i64 0, .int .i64 0, .float .f64 0, .string (⟨#[]⟩ : ByteArray)]) ?_ 1 _ rfl; (with_reducible repeat (first | refine blk_drewN ?_ _ | refine blk_drew ?_ | refine blk_alloc ?_ _)); refine blk_put (cs := #[.int .i64 0, .int .i64 0, .float .f64 0, .string (⟨#[]⟩ : ByteArray)]) ?_ 0 _ rfl; (with_reducible repeat (first | refine blk_drewN ?_ _ | refine blk_drew ?_ | refine blk_alloc ?_ _)); exact BK477.out) Tryd.underlying50 rfl (by kernel_rfl)) rfl ?_
        exact ⟨by first | rfl | (simp [errW_none, errW_some] <;> rfl) | (simp [*, errW_none, errW_some] <;> rfl), by repeat (first | (with_reducible first | exact HB.out | apply below_alloc | apply pw_below_drewN | apply below_drew1 | refine below_set ?_ GE477.out) | exact HB.out)⟩
      · rw [if_neg c5] at H
        have c5b0 : ((bt a0 0) == 1) = false := beq_eq_false_iff_ne.mpr c5
        have c5b1 : ((bt a0 0) != 1) = true := bne_iff_ne.mpr c5
        by_cases c9 : (bt a0 0) = 2
        · rw [if_pos c9] at H
          have c9b0 : ((bt a0 0) == 2) = true := beq_iff_eq.mpr c9
          have c9b1 : ((bt a0 0) != 2) = false := bne_eq_false_iff_eq.mpr c9
          clear c9
          replace H := Option.bind_eq_some_iff.mp H
          obtain ⟨⟨t478, t479, t480⟩, A100, H⟩ := H
          replace H : (if t480 = true then (if 0 < (t478.size : Int) then (if (bt t478 0) > 1 then (some (0, 0, 0, (⟨#[]⟩ : ByteArray), (⟨#[]⟩ : ByteArray), false)) else (some (1, wrap64 (bt t478 0), 0, (⟨#[]⟩ : ByteArray), t479, true))) else (none)) else (some (0, 0, 0, (⟨#[]⟩ : ByteArray), (⟨#[]⟩ : ByteArray), false))) = some (r1, r2, r3, r4, r5, r6) := H
          have A10 := Aside0.mk A100
          clear A100
          by_cases c11 : t480 = true
          · subst c11
            have H1 : (if 0 < (t478.size : Int) then (if (bt t478 0) > 1 then (some (0, 0, 0, (⟨#[]⟩ : ByteArray), (⟨#[]⟩ : ByteArray), false)) else (some (1, wrap64 (bt t478 0), 0, (⟨#[]⟩ : ByteArray), t479, true))) else (none)) = some (r1, r2, r3, r4, r5, r6) := by rw [if_pos rfl] at H; exact H
            clear H
            have H := H1
            clear H1
            by_cases c12 : 0 < (t478.size : Int)
            · rw [if_pos c12] at H
              have c12b0 : decide (0 < (t478.size : Int)) = true := decide_eq_true c12
              have c12b1 : decide (0 < t478.size) = true := decide_eq_true (by omega)
              clear c12
              by_cases c14 : (bt t478 0) > 1
              · rw [if_pos c14] at H
                have c14b0 : decide (1 < (bt t478 0)) = true := decide_eq_true c14
                clear c14
                simp only [Option.some.injEq, Prod.mk.injEq] at H
                obtain ⟨rfl, rfl, rfl, rfl, rfl, rfl⟩ := H
                go_enter Tryd.func72, Tryd.ntmps72
                try go_wp2_with (first | ((with_reducible refine gate_dst (N := 2) rfl ?_); refine box_event ?hg (N := 2) ?hd (cs := #[.int .i64 0, .int .i64 0, .float .f64 0, .string (⟨#[]⟩ : ByteArray)]) (t := 50) ?hr ?_; (case hd => rfl); (case hg => rfl); (case hr => first | (go_simp; done) | (go_simp; rfl)); intro gb477 hg w15 hbox hb; have n0_ := Aside0.mk (below_step (by repeat (first | (with_reducible first | exact HB.out | apply below_alloc | apply pw_below_drewN | apply below_drew1) | exact HB.out)) hb); have n1_ := Aside0.mk (hbox); have n2_ := Aside0.mk ((by rw [hg]; exact (below_size (by repeat (first | (with_reducible first | exact HB.out | apply below_alloc | apply pw_below_drewN | apply below_drew1) | exact HB.out))) : w.heap.size ≤ gb477)); have n3_ := Aside0.mk ((by rw [hg]; exact (below_size (by repeat (first | (with_reducible first | exact HB.out | apply below_alloc | apply pw_below_drewN | apply below_drew1) | exact HB.out))) : w.heap.size ≤ gb477)); clear HB; have HB := n0_; have BK477 := n1_; have GW477 := n2_; have GE477 := n3_; clear n0_ n1_ n2_ n3_; clear hb hbox hg))
                have n0_ := Aside0.mk (blk_drew BK477.out)
                have n1_ := Aside0.mk (below_drew1 HB.out)
                clear BK477
                clear HB
                have BK477 := n0_
                have HB := n1_
                clear n0_ n1_
                have p3 : 0 ≤ (0 : Int) := (by omega)
                have q3 : 0 < a0.size := (by have : (0 : Int) < (a0.size : Int) := of_decide_eq_true (by first | (with_reducible assumption) | assumption); omega)
                have hx3 : ∀ h : 0 < a0.size, ((a0[0]'h).toNat : Int) = bt a0 0 := bt_at a0 0
                clear p3
                have qi3 : (0 < (a0.size : Int)) = True := eq_true (of_decide_eq_true (by first | (with_reducible assumption) | assumption))
                replace q3 := eq_true q3
                refine start_ (n := 6) (S := fun w' => True) (ds := []) #[false, false, false, false, false, false] (by kernel_rfl) rfl rfl trivial (fun hHeld => ?_)
                generalize w15.drew = w16 at BK477 HB hHeld ⊢
                refine pure_ (i := 0) (N := some 13) (v := ?_) (a' := ?_) #[true, false, false, false, false, false] rfl rfl (by kernel_rfl) (fun _ _ _ h => h) (Or.inl ⟨by rfl, ?_⟩) ?_ ?_
                rotate_left
                · intro w'
                  go_simp
                  with_reducible rfl
                rotate_left
                · simp only [Act.put, List.setIfInBounds_toArray, List.set_cons_zero, List.set_cons_succ, i64_w, i32_w]
                  rfl
                refine pure_ (i := 2) (N := some 15) (v := ?_) (a' := ?_) #[true, false, true, false, false, false] rfl rfl (by kernel_rfl) (fun _ _ _ h => h) (Or.inl ⟨by rfl, ?_⟩) ?_ ?_
                rotate_left
                · intro w'
                  go_simp
                  with_reducible rfl
                rotate_left
                · simp only [Act.put, List.setIfInBounds_toArray, List.set_cons_zero, List.set_cons_succ, i64_w, i32_w]
                  rfl
                refine pure_ (i := 3) (N := some 16) (v := ?_) (a' := ?_) #[true, false, true, true, false, false] rfl rfl (by kernel_rfl) (fun _ _ _ h => h) (Or.inl ⟨by rfl, ?_⟩) ?_ ?_
                rotate_left
                · intro w'
                  go_simp
                  with_reducible rfl
                rotate_left
                · simp only [Act.put, List.setIfInBounds_toArray, List.set_cons_zero, List.set_cons_succ, i64_w, i32_w]
                  rfl
                refine take_ (i := 1) (N := some 14) (v := ?_) (a' := ?_) #[true, true, true, true, false, false] rfl rfl (by kernel_rfl) (fun _ _ _ h => h) (Or.inl ⟨by rfl, ?_⟩) hHeld ?_ ?_
                rotate_left
                · intro w' _
                  go_simp
                  with_reducible rfl
                rotate_left
                · simp only [Act.put, List.setIfInBounds_toArray, List.set_cons_zero, List.set_cons_succ, i64_w, i32_w]
                  rfl
                refine pure_ (i := 4) (N := some 5) (v := ?_) (a' := ?_) #[true, true, true, true, true, false] rfl rfl (by kernel_rfl) (fun _ _ _ h => h) (Or.inl ⟨by rfl, ?_⟩) ?_ ?_
                rotate_left
                · intro w'
                  go_simp
                  with_reducible rfl
                rotate_left
                · simp only [Act.put, List.setIfInBounds_toArray, List.set_cons_zero, List.set_cons_succ, i64_w, i32_w]
                  rfl
                refine pure_ (i := 5) (N := some 0) (v := ?_) (a' := ?_) #[true, true, true, true, true, true] rfl rfl (by kernel_rfl) (fun _ _ _ h => h) (Or.inl ⟨by rfl, ?_⟩) ?_ ?_
                rotate_left
                · intro w'
                  go_simp
                  with_reducible rfl
                rotate_left
                · simp only [Act.put, List.setIfInBounds_toArray, List.set_cons_zero, List.set_cons_succ, i64_w, i32_w]
                  rfl
                refine done_ (by kernel_rfl) ?_
                try go_wp2_with (first | ((with_reducible refine gate_callee (f := 110) rfl ?_); refine goesL_ (some 26) rfl rfl Tryd.func110 (by kernel_rfl) rfl #[.string (a0.extract 1 a0.size), .int .i64 1] rfl (by (try simp only [List.map_toArray, List.map_cons, List.map_nil]); first | done | rfl | (simp only [List.length_drop, List.length_take]; rfl)) ?_; (with_reducible refine (code_take.calls (a0.extract 1 a0.size) 1 t478 t479 true _ A10.out).mono ?_); rintro e w' ⟨rfl, ⟨nd, rfl⟩⟩; refine ⟨_, rfl, ?_⟩; (try (rw [drewN_self w16]; generalize hq_ : World.drewN w16 _ = w16; have n0_ : Aside0 (w16.heap[gb477]? = some (.cells #[.int .i64 0, .int .i64 0, .float .f64 0, .string (⟨#[]⟩ : ByteArray)] 50 (0, 0))) := ⟨by rw [← hq_]; exact (by (with_reducible repeat (first | refine blk_drewN ?_ _ | refine blk_drew ?_ | refine blk_alloc ?_ _)); exact BK477.out)⟩; have n1_ : Aside0 (Below w.heap.size w w16) := ⟨by rw [← hq_]; exact (by repeat (first | (with_reducible first | exact HB.out | apply below_alloc | apply pw_below_drewN | apply below_drew1 | refine below_set ?_ GE477.out) | exact HB.out))⟩; clear BK477 HB hq_; have BK477 := n0_; have HB := n1_; clear n0_ n1_)); (try have hczuz17 : w16.cell? ⟨gb477, 0, none⟩ = some (.int .i64 0) := (blk_cell BK477.out 0).trans rfl); (try have hfzuz17 := blk_frozen BK477.out 0); (try have hczuz18 : w16.cell? ⟨gb477, 1, none⟩ = some (.int .i64 0) := (blk_cell BK477.out 1).trans rfl); (try have hfzuz18 := blk_frozen BK477.out 1); (try have hczuz19 : w16.cell? ⟨gb477, 2, none⟩ = some (.float .f64 0) := (blk_cell BK477.out 2).trans rfl); (try have hfzuz19 := blk_frozen BK477.out 2); (try have hczuz20 : w16.cell? ⟨gb477, 3, none⟩ = some (.string (⟨#[]⟩ : ByteArray)) := (blk_cell BK477.out 3).trans rfl); (try have hfzuz20 := blk_frozen BK477.out 3); have p13 : 0 ≤ (0 : Int) := (by omega); have q13 : 0 < t478.size := (by have : (0 : Int) < (t478.size : Int) := of_decide_eq_true (by first | (with_reducible assumption) | assumption); omega); have hx13 : ∀ h : 0 < t478.size, ((t478[0]'h).toNat : Int) = bt t478 0 := bt_at t478 0; clear p13; have qi13 : (0 < (t478.size : Int)) = True := eq_true (of_decide_eq_true (by first | (with_reducible assumption) | assumption)); replace q13 := eq_true q13; have hcz21_0 : w16.cell? ⟨gb477, 0, none⟩ = some (.int .i64 0) := (blk_cell BK477.out 0).trans rfl; have hcz21_1 : w16.cell? ⟨gb477, 1, none⟩ = some (.int .i64 0) := (blk_cell BK477.out 1).trans rfl; have hcz21_2 : w16.cell? ⟨gb477, 2, none⟩ = some (.float .f64 0) := (blk_cell BK477.out 2).trans rfl; have hcz21_3 : w16.cell? ⟨gb477, 3, none⟩ = some (.string (⟨#[]⟩ : ByteArray)) := (blk_cell BK477.out 3).trans rfl; have hfz21_0 := blk_frozen BK477.out 0; have hfz21_1 := blk_frozen BK477.out 1; have hfz21_2 := blk_frozen BK477.out 2; have hfz21_3 := blk_frozen BK477.out 3))
                refine bodyPost_ret (results_ctt rfl _ _ gb477 50 #[.int .i64 0, .int .i64 0, .float .f64 0, .string (⟨#[]⟩ : ByteArray)] (0, 0) _ rfl (by (with_reducible repeat (first | refine blk_drewN ?_ _ | refine blk_drew ?_ | refine blk_alloc ?_ _)); refine blk_put (cs := #[.int .i64 0, .int .i64 0, .float .f64 0, .string (⟨#[]⟩ : ByteArray)]) ?_ 3 _ rfl; (with_reducible repeat (first | refine blk_drewN ?_ _ | refine blk_drew ?_ | refine blk_alloc ?_ _)); refine blk_put (cs := #[.int .i64 0, .int .i64 0, .float .f64 0, .string (⟨#[]⟩ : ByteArray)]) ?_ 2 _ rfl; (with_reducible repeat (first | refine blk_drewN ?_ _ | refine blk_drew ?_ | refine blk_alloc ?_ _)); refine blk_put (cs := #[.int .i64 0, .int .i64 0, .float .f64 0, .string (⟨#[]⟩ : ByteArray)]) ?_ 1 _ rfl; (with_reducible repeat (first | refine blk_drewN ?_ _ | refine blk_drew ?_ | refine blk_alloc ?_ _)); refine blk_put (cs := #[.int .i64 0, .int .i64 0, .float .f64 0, .string (⟨#[]⟩ : ByteArray)]) ?_ 0 _ rfl; (with_reducible repeat (first | refine blk_drewN ?_ _ | refine blk_drew ?_ | refine blk_alloc ?_ _)); exact BK477.out) Tryd.underlying50 rfl (by kernel_rfl)) rfl ?_
                exact ⟨by first | rfl | (simp [errW_none, errW_some] <;> rfl) | (simp [*, errW_none, errW_some] <;> rfl), by repeat (first | (with_reducible first | exact HB.out | apply below_alloc | apply pw_below_drewN | apply below_drew1 | refine below_set ?_ GE477.out) | exact HB.out)⟩
              · rw [if_neg c14] at H
                have c14b0 : decide (1 < (bt t478 0)) = false := decide_eq_false c14
                clear c14
                simp only [Option.some.injEq, Prod.mk.injEq] at H
                obtain ⟨rfl, rfl, rfl, rfl, rfl, rfl⟩ := H
                go_enter Tryd.func72, Tryd.ntmps72
                try go_wp2_with (first | ((with_reducible refine gate_dst (N := 2) rfl ?_); refine box_event ?hg (N := 2) ?hd (cs := #[.int .i64 0, .int .i64 0, .float .f64 0, .string (⟨#[]⟩ : ByteArray)]) (t := 50) ?hr ?_; (case hd => rfl); (case hg => rfl); (case hr => first | (go_simp; done) | (go_simp; rfl)); intro gb477 hg w23 hbox hb; have n0_ := Aside0.mk (below_step (by repeat (first | (with_reducible first | exact HB.out | apply below_alloc | apply pw_below_drewN | apply below_drew1) | exact HB.out)) hb); have n1_ := Aside0.mk (hbox); have n2_ := Aside0.mk ((by rw [hg]; exact (below_size (by repeat (first | (with_reducible first | exact HB.out | apply below_alloc | apply pw_below_drewN | apply below_drew1) | exact HB.out))) : w.heap.size ≤ gb477)); have n3_ := Aside0.mk ((by rw [hg]; exact (below_size (by repeat (first | (with_reducible first | exact HB.out | apply below_alloc | apply pw_below_drewN | apply below_drew1) | exact HB.out))) : w.heap.size ≤ gb477)); clear HB; have HB := n0_; have BK477 := n1_; have GW477 := n2_; have GE477 := n3_; clear n0_ n1_ n2_ n3_; clear hb hbox hg))
                have n0_ := Aside0.mk (blk_drew BK477.out)
                have n1_ := Aside0.mk (below_drew1 HB.out)
                clear BK477
                clear HB
                have BK477 := n0_
                have HB := n1_
                clear n0_ n1_
                have p3 : 0 ≤ (0 : Int) := (by omega)
                have q3 : 0 < a0.size := (by have : (0 : Int) < (a0.size : Int) := of_decide_eq_true (by first | (with_reducible assumption) | assumption); omega)
                have hx3 : ∀ h : 0 < a0.size, ((a0[0]'h).toNat : Int) = bt a0 0 := bt_at a0 0
                clear p3
                have qi3 : (0 < (a0.size : Int)) = True := eq_true (of_decide_eq_true (by first | (with_reducible assumption) | assumption))
                replace q3 := eq_true q3
                refine start_ (n := 6) (S := fun w' => True) (ds := []) #[false, false, false, false, false, false] (by kernel_rfl) rfl rfl trivial (fun hHeld => ?_)
                generalize w23.drew = w24 at BK477 HB hHeld ⊢
                refine pure_ (i := 0) (N := some 13) (v := ?_) (a' := ?_) #[true, false, false, false, false, false] rfl rfl (by kernel_rfl) (fun _ _ _ h => h) (Or.inl ⟨by rfl, ?_⟩) ?_ ?_
                rotate_left
                · intro w'
                  go_simp
                  with_reducible rfl
                rotate_left
                · simp only [Act.put, List.setIfInBounds_toArray, List.set_cons_zero, List.set_cons_succ, i64_w, i32_w]
                  rfl
                refine pure_ (i := 2) (N := some 15) (v := ?_) (a' := ?_) #[true, false, true, false, false, false] rfl rfl (by kernel_rfl) (fun _ _ _ h => h) (Or.inl ⟨by rfl, ?_⟩) ?_ ?_
                rotate_left
                · intro w'
                  go_simp
                  with_reducible rfl
                rotate_left
                · simp only [Act.put, List.setIfInBounds_toArray, List.set_cons_zero, List.set_cons_succ, i64_w, i32_w]
                  rfl
                refine pure_ (i := 3) (N := some 16) (v := ?_) (a' := ?_) #[true, false, true, true, false, false] rfl rfl (by kernel_rfl) (fun _ _ _ h => h) (Or.inl ⟨by rfl, ?_⟩) ?_ ?_
                rotate_left
                · intro w'
                  go_simp
                  with_reducible rfl
                rotate_left
                · simp only [Act.put, List.setIfInBounds_toArray, List.set_cons_zero, List.set_cons_succ, i64_w, i32_w]
                  rfl
                refine take_ (i := 1) (N := some 14) (v := ?_) (a' := ?_) #[true, true, true, true, false, false] rfl rfl (by kernel_rfl) (fun _ _ _ h => h) (Or.inl ⟨by rfl, ?_⟩) hHeld ?_ ?_
                rotate_left
                · intro w' _
                  go_simp
                  with_reducible rfl
                rotate_left
                · simp only [Act.put, List.setIfInBounds_toArray, List.set_cons_zero, List.set_cons_succ, i64_w, i32_w]
                  rfl
                refine pure_ (i := 4) (N := some 5) (v := ?_) (a' := ?_) #[true, true, true, true, true, false] rfl rfl (by kernel_rfl) (fun _ _ _ h => h) (Or.inl ⟨by rfl, ?_⟩) ?_ ?_
                rotate_left
                · intro w'
                  go_simp
                  with_reducible rfl
                rotate_left
                · simp only [Act.put, List.setIfInBounds_toArray, List.set_cons_zero, List.set_cons_succ, i64_w, i32_w]
                  rfl
                refine pure_ (i := 5) (N := some 0) (v := ?_) (a' := ?_) #[true, true, true, true, true, true] rfl rfl (by kernel_rfl) (fun _ _ _ h => h) (Or.inl ⟨by rfl, ?_⟩) ?_ ?_
                rotate_left
                · intro w'
                  go_simp
                  with_reducible rfl
                rotate_left
                · simp only [Act.put, List.setIfInBounds_toArray, List.set_cons_zero, List.set_cons_succ, i64_w, i32_w]
                  rfl
                refine done_ (by kernel_rfl) ?_
                try go_wp2_with (first | ((with_reducible refine gate_callee (f := 110) rfl ?_); refine goesL_ (some 26) rfl rfl Tryd.func110 (by kernel_rfl) rfl #[.string (a0.extract 1 a0.size), .int .i64 1] rfl (by (try simp only [List.map_toArray, List.map_cons, List.map_nil]); first | done | rfl | (simp only [List.length_drop, List.length_take]; rfl)) ?_; (with_reducible refine (code_take.calls (a0.extract 1 a0.size) 1 t478 t479 true _ A10.out).mono ?_); rintro e w' ⟨rfl, ⟨nd, rfl⟩⟩; refine ⟨_, rfl, ?_⟩; (try (rw [drewN_self w24]; generalize hq_ : World.drewN w24 _ = w24; have n0_ : Aside0 (w24.heap[gb477]? = some (.cells #[.int .i64 0, .int .i64 0, .float .f64 0, .string (⟨#[]⟩ : ByteArray)] 50 (0, 0))) := ⟨by rw [← hq_]; exact (by (with_reducible repeat (first | refine blk_drewN ?_ _ | refine blk_drew ?_ | refine blk_alloc ?_ _)); exact BK477.out)⟩; have n1_ : Aside0 (Below w.heap.size w w24) := ⟨by rw [← hq_]; exact (by repeat (first | (with_reducible first | exact HB.out | apply below_alloc | apply pw_below_drewN | apply below_drew1 | refine below_set ?_ GE477.out) | exact HB.out))⟩; clear BK477 HB hq_; have BK477 := n0_; have HB := n1_; clear n0_ n1_)); (try have hczuz25 : w24.cell? ⟨gb477, 0, none⟩ = some (.int .i64 0) := (blk_cell BK477.out 0).trans rfl); (try have hfzuz25 := blk_frozen BK477.out 0); (try have hczuz26 : w24.cell? ⟨gb477, 1, none⟩ = some (.int .i64 0) := (blk_cell BK477.out 1).trans rfl); (try have hfzuz26 := blk_frozen BK477.out 1); (try have hczuz27 : w24.cell? ⟨gb477, 2, none⟩ = some (.float .f64 0) := (blk_cell BK477.out 2).trans rfl); (try have hfzuz27 := blk_frozen BK477.out 2); (try have hczuz28 : w24.cell? ⟨gb477, 3, none⟩ = some (.string (⟨#[]⟩ : ByteArray)) := (blk_cell BK477.out 3).trans rfl); (try have hfzuz28 := blk_frozen BK477.out 3); have p13 : 0 ≤ (0 : Int) := (by omega); have q13 : 0 < t478.size := (by have : (0 : Int) < (t478.size : Int) := of_decide_eq_true (by first | (with_reducible assumption) | assumption); omega); have hx13 : ∀ h : 0 < t478.size, ((t478[0]'h).toNat : Int) = bt t478 0 := bt_at t478 0; clear p13; have qi13 : (0 < (t478.size : Int)) = True := eq_true (of_decide_eq_true (by first | (with_reducible assumption) | assumption)); replace q13 := eq_true q13; have p22 : 0 ≤ (0 : Int) := (by omega); have q22 : 0 < t478.size := (by have : (0 : Int) < (t478.size : Int) := of_decide_eq_true (by first | (with_reducible assumption) | assumption); omega); have hx22 : ∀ h : 0 < t478.size, ((t478[0]'h).toNat : Int) = bt t478 0 := bt_at t478 0; clear p22; have qi22 : (0 < (t478.size : Int)) = True := eq_true (of_decide_eq_true (by first | (with_reducible assumption) | assumption)); replace q22 := eq_true q22; have hcz29_0 : w24.cell? ⟨gb477, 0, none⟩ = some (.int .i64 0) := (blk_cell BK477.out 0).trans rfl; have hcz29_1 : w24.cell? ⟨gb477, 1, none⟩ = some (.int .i64 0) := (blk_cell BK477.out 1).trans rfl; have hcz29_2 : w24.cell? ⟨gb477, 2, none⟩ = some (.float .f64 0) := (blk_cell BK477.out 2).trans rfl; have hcz29_3 : w24.cell? ⟨gb477, 3, none⟩ = some (.string (⟨#[]⟩ : ByteArray)) := (blk_cell BK477.out 3).trans rfl; have hfz29_0 := blk_frozen BK477.out 0; have hfz29_1 := blk_frozen BK477.out 1; have hfz29_2 := blk_frozen BK477.out 2; have hfz29_3 := blk_frozen BK477.out 3))
                refine bodyPost_ret (results_ctt rfl _ _ gb477 50 #[.int .i64 1, .int .i64 (wrap64 (bt t478 0)), .float .f64 0, .string (⟨#[]⟩ : ByteArray)] (0, 0) _ rfl (by (with_reducible repeat (first | refine blk_drewN ?_ _ | refine blk_drew ?_ | refine blk_alloc ?_ _)); refine blk_put (cs := #[.int .i64 1, .int .i64 (wrap64 (bt t478 0)), .float .f64 0, .string (⟨#[]⟩ : ByteArray)]) ?_ 3 _ rfl; (with_reducible repeat (first | refine blk_drewN ?_ _ | refine blk_drew ?_ | refine blk_alloc ?_ _)); refine blk_put (cs := #[.int .i64 1, .int .i64 (wrap64 (bt t478 0)), .float .f64 0, .string (⟨#[]⟩ : ByteArray)]) ?_ 2 _ rfl; (with_reducible repeat (first | refine blk_drewN ?_ _ | refine blk_drew ?_ | refine blk_alloc ?_ _)); refine blk_put (cs := #[.int .i64 1, .int .i64 0, .float .f64 0, .string (⟨#[]⟩ : ByteArray)]) ?_ 1 _ rfl; (with_reducible repeat (first | refine blk_drewN ?_ _ | refine blk_drew ?_ | refine blk_alloc ?_ _)); refine blk_put (cs := #[.int .i64 0, .int .i64 0, .float .f64 0, .string (⟨#[]⟩ : ByteArray)]) ?_ 0 _ rfl; (with_reducible repeat (first | refine blk_drewN ?_ _ | refine blk_drew ?_ | refine blk_alloc ?_ _)); exact BK477.out) Tryd.underlying50 rfl (by kernel_rfl)) rfl ?_
                exact ⟨by first | rfl | (simp [errW_none, errW_some] <;> rfl) | (simp [*, errW_none, errW_some] <;> rfl), by repeat (first | (with_reducible first | exact HB.out | apply below_alloc | apply pw_below_drewN | apply below_drew1 | refine below_set ?_ GE477.out) | exact HB.out)⟩
            · rw [if_neg c12] at H
              exact absurd H (by simp)
          · replace c11 := Bool.eq_false_iff.mpr c11
            subst c11
            have H1 : (some (0, 0, 0, (⟨#[]⟩ : ByteArray), (⟨#[]⟩ : ByteArray), false)) = some (r1, r2, r3, r4, r5, r6) := by rw [if_neg (show ¬ (false = true) by decide)] at H; exact H
            clear H
            have H := H1
            clear H1
            simp only [Option.some.injEq, Prod.mk.injEq] at H
            obtain ⟨rfl, rfl, rfl, rfl, rfl, rfl⟩ := H
            go_enter Tryd.func72, Tryd.ntmps72
            try go_wp2_with (first | ((with_reducible refine gate_dst (N := 2) rfl ?_); refine box_event ?hg (N := 2) ?hd (cs := #[.int .i64 0, .int .i64 0, .float .f64 0, .string (⟨#[]⟩ : ByteArray)]) (t := 50) ?hr ?_; (case hd => rfl); (case hg => rfl); (case hr => first | (go_simp; done) | (go_simp; rfl)); intro gb477 hg w30 hbox hb; have n0_ := Aside0.mk (below_step (by repeat (first | (with_reducible first | exact HB.out | apply below_alloc | apply pw_below_drewN | apply below_drew1) | exact HB.out)) hb); have n1_ := Aside0.mk (hbox); have n2_ := Aside0.mk ((by rw [hg]; exact (below_size (by repeat (first | (with_reducible first | exact HB.out | apply below_alloc | apply pw_below_drewN | apply below_drew1) | exact HB.out))) : w.heap.size ≤ gb477)); have n3_ := Aside0.mk ((by rw [hg]; exact (below_size (by repeat (first | (with_reducible first | exact HB.out | apply below_alloc | apply pw_below_drewN | apply below_drew1) | exact HB.out))) : w.heap.size ≤ gb477)); clear HB; have HB := n0_; have BK477 := n1_; have GW477 := n2_; have GE477 := n3_; clear n0_ n1_ n2_ n3_; clear hb hbox hg))
            have n0_ := Aside0.mk (blk_drew BK477.out)
            have n1_ := Aside0.mk (below_drew1 HB.out)
            clear BK477
            clear HB
            have BK477 := n0_
            have HB := n1_
            clear n0_ n1_
            have p3 : 0 ≤ (0 : Int) := (by omega)
            have q3 : 0 < a0.size := (by have : (0 : Int) < (a0.size : Int) := of_decide_eq_true (by first | (with_reducible assumption) | assumption); omega)
            have hx3 : ∀ h : 0 < a0.size, ((a0[0]'h).toNat : Int) = bt a0 0 := bt_at a0 0
            clear p3
            have qi3 : (0 < (a0.size : Int)) = True := eq_true (of_decide_eq_true (by first | (with_reducible assumption) | assumption))
            replace q3 := eq_true q3
            refine start_ (n := 6) (S := fun w' => True) (ds := []) #[false, false, false, false, false, false] (by kernel_rfl) rfl rfl trivial (fun hHeld => ?_)
            generalize w30.drew = w31 at BK477 HB hHeld ⊢
            refine pure_ (i := 0) (N := some 13) (v := ?_) (a' := ?_) #[true, false, false, false, false, false] rfl rfl (by kernel_rfl) (fun _ _ _ h => h) (Or.inl ⟨by rfl, ?_⟩) ?_ ?_
            rotate_left
            · intro w'
              go_simp
              with_reducible rfl
            rotate_left
            · simp only [Act.put, List.setIfInBounds_toArray, List.set_cons_zero, List.set_cons_succ, i64_w, i32_w]
              rfl
            refine pure_ (i := 2) (N := some 15) (v := ?_) (a' := ?_) #[true, false, true, false, false, false] rfl rfl (by kernel_rfl) (fun _ _ _ h => h) (Or.inl ⟨by rfl, ?_⟩) ?_ ?_
            rotate_left
            · intro w'
              go_simp
              with_reducible rfl
            rotate_left
            · simp only [Act.put, List.setIfInBounds_toArray, List.set_cons_zero, List.set_cons_succ, i64_w, i32_w]
              rfl
            refine pure_ (i := 3) (N := some 16) (v := ?_) (a' := ?_) #[true, false, true, true, false, false] rfl rfl (by kernel_rfl) (fun _ _ _ h => h) (Or.inl ⟨by rfl, ?_⟩) ?_ ?_
            rotate_left
            · intro w'
              go_simp
              with_reducible rfl
            rotate_left
            · simp only [Act.put, List.setIfInBounds_toArray, List.set_cons_zero, List.set_cons_succ, i64_w, i32_w]
              rfl
            refine take_ (i := 1) (N := some 14) (v := ?_) (a' := ?_) #[true, true, true, true, false, false] rfl rfl (by kernel_rfl) (fun _ _ _ h => h) (Or.inl ⟨by rfl, ?_⟩) hHeld ?_ ?_
            rotate_left
            · intro w' _
              go_simp
              with_reducible rfl
            rotate_left
            · simp only [Act.put, List.setIfInBounds_toArray, List.set_cons_zero, List.set_cons_succ, i64_w, i32_w]
              rfl
            refine pure_ (i := 4) (N := some 5) (v := ?_) (a' := ?_) #[true, true, true, true, true, false] rfl rfl (by kernel_rfl) (fun _ _ _ h => h) (Or.inl ⟨by rfl, ?_⟩) ?_ ?_
            rotate_left
            · intro w'
              go_simp
              with_reducible rfl
            rotate_left
            · simp only [Act.put, List.setIfInBounds_toArray, List.set_cons_zero, List.set_cons_succ, i64_w, i32_w]
              rfl
            refine pure_ (i := 5) (N := some 0) (v := ?_) (a' := ?_) #[true, true, true, true, true, true] rfl rfl (by kernel_rfl) (fun _ _ _ h => h) (Or.inl ⟨by rfl, ?_⟩) ?_ ?_
            rotate_left
            · intro w'
              go_simp
              with_reducible rfl
            rotate_left
            · simp only [Act.put, List.setIfInBounds_toArray, List.set_cons_zero, List.set_cons_succ, i64_w, i32_w]
              rfl
            refine done_ (by kernel_rfl) ?_
            try go_wp2_with (first | ((with_reducible refine gate_callee (f := 110) rfl ?_); refine goesL_ (some 26) rfl rfl Tryd.func110 (by kernel_rfl) rfl #[.string (a0.extract 1 a0.size), .int .i64 1] rfl (by (try simp only [List.map_toArray, List.map_cons, List.map_nil]); first | done | rfl | (simp only [List.length_drop, List.length_take]; rfl)) ?_; (with_reducible refine (code_take.calls (a0.extract 1 a0.size) 1 t478 t479 false _ A10.out).mono ?_); rintro e w' ⟨rfl, ⟨nd, rfl⟩⟩; refine ⟨_, rfl, ?_⟩; (try (rw [drewN_self w31]; generalize hq_ : World.drewN w31 _ = w31; have n0_ : Aside0 (w31.heap[gb477]? = some (.cells #[.int .i64 0, .int .i64 0, .float .f64 0, .string (⟨#[]⟩ : ByteArray)] 50 (0, 0))) := ⟨by rw [← hq_]; exact (by (with_reducible repeat (first | refine blk_drewN ?_ _ | refine blk_drew ?_ | refine blk_alloc ?_ _)); exact BK477.out)⟩; have n1_ : Aside0 (Below w.heap.size w w31) := ⟨by rw [← hq_]; exact (by repeat (first | (with_reducible first | exact HB.out | apply below_alloc | apply pw_below_drewN | apply below_drew1 | refine below_set ?_ GE477.out) | exact HB.out))⟩; clear BK477 HB hq_; have BK477 := n0_; have HB := n1_; clear n0_ n1_)); (try have hczuz32 : w31.cell? ⟨gb477, 0, none⟩ = some (.int .i64 0) := (blk_cell BK477.out 0).trans rfl); (try have hfzuz32 := blk_frozen BK477.out 0); (try have hczuz33 : w31.cell? ⟨gb477, 1, none⟩ = some (.int .i64 0) := (blk_cell BK477.out 1).trans rfl); (try have hfzuz33 := blk_frozen BK477.out 1); (try have hczuz34 : w31.cell? ⟨gb477, 2, none⟩ = some (.float .f64 0) := (blk_cell BK477.out 2).trans rfl); (try have hfzuz34 := blk_frozen BK477.out 2); (try have hczuz35 : w31.cell? ⟨gb477, 3, none⟩ = some (.string (⟨#[]⟩ : ByteArray)) := (blk_cell BK477.out 3).trans rfl); (try have hfzuz35 := blk_frozen BK477.out 3); have hcz36_0 : w31.cell? ⟨gb477, 0, none⟩ = some (.int .i64 0) := (blk_cell BK477.out 0).trans rfl; have hcz36_1 : w31.cell? ⟨gb477, 1, none⟩ = some (.int .i64 0) := (blk_cell BK477.out 1).trans rfl; have hcz36_2 : w31.cell? ⟨gb477, 2, none⟩ = some (.float .f64 0) := (blk_cell BK477.out 2).trans rfl; have hcz36_3 : w31.cell? ⟨gb477, 3, none⟩ = some (.string (⟨#[]⟩ : ByteArray)) := (blk_cell BK477.out 3).trans rfl; have hfz36_0 := blk_frozen BK477.out 0; have hfz36_1 := blk_frozen BK477.out 1; have hfz36_2 := blk_frozen BK477.out 2; have hfz36_3 := blk_frozen BK477.out 3))
            refine bodyPost_ret (results_ctt rfl _ _ gb477 50 #[.int .i64 0, .int .i64 0, .float .f64 0, .string (⟨#[]⟩ : ByteArray)] (0, 0) _ rfl (by (with_reducible repeat (first | refine blk_drewN ?_ _ | refine blk_drew ?_ | refine blk_alloc ?_ _)); refine blk_put (cs := #[.int .i64 0, .int .i64 0, .float .f64 0, .string (⟨#[]⟩ : ByteArray)]) ?_ 3 _ rfl; (with_reducible repeat (first | refine blk_drewN ?_ _ | refine blk_drew ?_ | refine blk_alloc ?_ _)); refine blk_put (cs := #[.int .i64 0, .int .i64 0, .float .f64 0, .string (⟨#[]⟩ : ByteArray)]) ?_ 2 _ rfl; (with_reducible repeat (first | refine blk_drewN ?_ _ | refine blk_drew ?_ | refine blk_alloc ?_ _)); refine blk_put (cs := #[.int .i64 0, .int .i64 0, .float .f64 0, .string (⟨#[]⟩ : ByteArray)]) ?_ 1 _ rfl; (with_reducible repeat (first | refine blk_drewN ?_ _ | refine blk_drew ?_ | refine blk_alloc ?_ _)); refine blk_put (cs := #[.int .i64 0, .int .i64 0, .float .f64 0, .string (⟨#[]⟩ : ByteArray)]) ?_ 0 _ rfl; (with_reducible repeat (first | refine blk_drewN ?_ _ | refine blk_drew ?_ | refine blk_alloc ?_ _)); exact BK477.out) Tryd.underlying50 rfl (by kernel_rfl)) rfl ?_
            exact ⟨by first | rfl | (simp [errW_none, errW_some] <;> rfl) | (simp [*, errW_none, errW_some] <;> rfl), by repeat (first | (with_reducible first | exact HB.out | apply below_alloc | apply pw_below_drewN | apply below_drew1 | refine below_set ?_ GE477.out) | exact HB.out)⟩
        · rw [if_neg c9] at H
          have c9b0 : ((bt a0 0) == 2) = false := beq_eq_false_iff_ne.mpr c9
          have c9b1 : ((bt a0 0) != 2) = true := bne_iff_ne.mpr c9
          by_cases c37 : (bt a0 0) = 3
          · rw [if_pos c37] at H
            have c37b0 : ((bt a0 0) == 3) = true := beq_iff_eq.mpr c37
            have c37b1 : ((bt a0 0) != 3) = false := bne_eq_false_iff_eq.mpr c37
            clear c37
            replace H := Option.bind_eq_some_iff.mp H
            obtain ⟨⟨t481, t482, t483, t484, t485, t486⟩, A380, H⟩ := H
            replace H : (some (t481, t482, t483, t484, t485, t486)) = some (r1, r2, r3, r4, r5, r6) := H
            have A38 := Aside0.mk A380
            clear A380
            simp only [Option.some.injEq, Prod.mk.injEq] at H
            obtain ⟨rfl, rfl, rfl, rfl, rfl, rfl⟩ := H
            go_enter Tryd.func72, Tryd.ntmps72
            try go_wp2_with (first | ((with_reducible refine gate_dst (N := 2) rfl ?_); refine box_event ?hg (N := 2) ?hd (cs := #[.int .i64 0, .int .i64 0, .float .f64 0, .string (⟨#[]⟩ : ByteArray)]) (t := 50) ?hr ?_; (case hd => rfl); (case hg => rfl); (case hr => first | (go_simp; done) | (go_simp; rfl)); intro gb477 hg w39 hbox hb; have n0_ := Aside0.mk (below_step (by repeat (first | (with_reducible first | exact HB.out | apply below_alloc | apply pw_below_drewN | apply below_drew1) | exact HB.out)) hb); have n1_ := Aside0.mk (hbox); have n2_ := Aside0.mk ((by rw [hg]; exact (below_size (by repeat (first | (with_reducible first | exact HB.out | apply below_alloc | apply pw_below_drewN | apply below_drew1) | exact HB.out))) : w.heap.size ≤ gb477)); have n3_ := Aside0.mk ((by rw [hg]; exact (below_size (by repeat (first | (with_reducible first | exact HB.out | apply below_alloc | apply pw_below_drewN | apply below_drew1) | exact HB.out))) : w.heap.size ≤ gb477)); clear HB; have HB := n0_; have BK477 := n1_; have GW477 := n2_; have GE477 := n3_; clear n0_ n1_ n2_ n3_; clear hb hbox hg))
            have n0_ := Aside0.mk (blk_drew BK477.out)
            have n1_ := Aside0.mk (below_drew1 HB.out)
            clear BK477
            clear HB
            have BK477 := n0_
            have HB := n1_
            clear n0_ n1_
            have p3 : 0 ≤ (0 : Int) := (by omega)
            have q3 : 0 < a0.size := (by have : (0 : Int) < (a0.size : Int) := of_decide_eq_true (by first | (with_reducible assumption) | assumption); omega)
            have hx3 : ∀ h : 0 < a0.size, ((a0[0]'h).toNat : Int) = bt a0 0 := bt_at a0 0
            clear p3
            have qi3 : (0 < (a0.size : Int)) = True := eq_true (of_decide_eq_true (by first | (with_reducible assumption) | assumption))
            replace q3 := eq_true q3
            refine start_ (n := 6) (S := fun w' => True) (ds := []) #[false, false, false, false, false, false] (by kernel_rfl) rfl rfl trivial (fun hHeld => ?_)
            generalize w39.drew = w40 at BK477 HB hHeld ⊢
            refine pure_ (i := 0) (N := some 13) (v := ?_) (a' := ?_) #[true, false, false, false, false, false] rfl rfl (by kernel_rfl) (fun _ _ _ h => h) (Or.inl ⟨by rfl, ?_⟩) ?_ ?_
            rotate_left
            · intro w'
              go_simp
              with_reducible rfl
            rotate_left
            · simp only [Act.put, List.setIfInBounds_toArray, List.set_cons_zero, List.set_cons_succ, i64_w, i32_w]
              rfl
            refine pure_ (i := 2) (N := some 15) (v := ?_) (a' := ?_) #[true, false, true, false, false, false] rfl rfl (by kernel_rfl) (fun _ _ _ h => h) (Or.inl ⟨by rfl, ?_⟩) ?_ ?_
            rotate_left
            · intro w'
              go_simp
              with_reducible rfl
            rotate_left
            · simp only [Act.put, List.setIfInBounds_toArray, List.set_cons_zero, List.set_cons_succ, i64_w, i32_w]
              rfl
            refine pure_ (i := 3) (N := some 16) (v := ?_) (a' := ?_) #[true, false, true, true, false, false] rfl rfl (by kernel_rfl) (fun _ _ _ h => h) (Or.inl ⟨by rfl, ?_⟩) ?_ ?_
            rotate_left
            · intro w'
              go_simp
              with_reducible rfl
            rotate_left
            · simp only [Act.put, List.setIfInBounds_toArray, List.set_cons_zero, List.set_cons_succ, i64_w, i32_w]
              rfl
            refine take_ (i := 1) (N := some 14) (v := ?_) (a' := ?_) #[true, true, true, true, false, false] rfl rfl (by kernel_rfl) (fun _ _ _ h => h) (Or.inl ⟨by rfl, ?_⟩) hHeld ?_ ?_
            rotate_left
            · intro w' _
              go_simp
              with_reducible rfl
            rotate_left
            · simp only [Act.put, List.setIfInBounds_toArray, List.set_cons_zero, List.set_cons_succ, i64_w, i32_w]
              rfl
            refine pure_ (i := 4) (N := some 5) (v := ?_) (a' := ?_) #[true, true, true, true, true, false] rfl rfl (by kernel_rfl) (fun _ _ _ h => h) (Or.inl ⟨by rfl, ?_⟩) ?_ ?_
            rotate_left
            · intro w'
              go_simp
              with_reducible rfl
            rotate_left
            · simp only [Act.put, List.setIfInBounds_toArray, List.set_cons_zero, List.set_cons_succ, i64_w, i32_w]
              rfl
            refine pure_ (i := 5) (N := some 0) (v := ?_) (a' := ?_) #[true, true, true, true, true, true] rfl rfl (by kernel_rfl) (fun _ _ _ h => h) (Or.inl ⟨by rfl, ?_⟩) ?_ ?_
            rotate_left
            · intro w'
              go_simp
              with_reducible rfl
            rotate_left
            · simp only [Act.put, List.setIfInBounds_toArray, List.set_cons_zero, List.set_cons_succ, i64_w, i32_w]
              rfl
            refine done_ (by kernel_rfl) ?_
            try go_wp2_with (first | ((with_reducible refine gate_callee (f := 111) rfl ?_); refine goesL_ (some 46) rfl rfl Tryd.func111 (by kernel_rfl) rfl #[.string (a0.extract 1 a0.size)] rfl (by (try simp only [List.map_toArray, List.map_cons, List.map_nil]); first | done | rfl | (simp only [List.length_drop, List.length_take]; rfl)) ?_; (with_reducible refine (code_getInt.calls k (a0.extract 1 a0.size) t481 t482 t483 t484 t485 t486 _ A38.out).mono ?_); rintro e w41 ⟨rfl, hb⟩; refine ⟨_, rfl, ?_⟩; have n0_ := Aside0.mk (blk_below (g := gb477) (o := .cells #[.int .i64 0, .int .i64 0, .float .f64 0, .string (⟨#[]⟩ : ByteArray)] 50 (0, 0)) (by (with_reducible repeat (first | refine blk_drewN ?_ _ | refine blk_drew ?_ | refine blk_alloc ?_ _)); exact BK477.out) hb); have n1_ := Aside0.mk (below_step (by repeat (first | (with_reducible first | exact HB.out | apply below_alloc | apply pw_below_drewN | apply below_drew1 | refine below_set ?_ GE477.out) | exact HB.out)) hb); clear BK477; clear HB; have BK477 := n0_; have HB := n1_; clear n0_ n1_; (try clear hb); (try clear hb2); (try clear hk); (try clear hi); have hcz42_0 : w41.cell? ⟨gb477, 0, none⟩ = some (.int .i64 0) := (blk_cell BK477.out 0).trans rfl; have hcz42_1 : w41.cell? ⟨gb477, 1, none⟩ = some (.int .i64 0) := (blk_cell BK477.out 1).trans rfl; have hcz42_2 : w41.cell? ⟨gb477, 2, none⟩ = some (.float .f64 0) := (blk_cell BK477.out 2).trans rfl; have hcz42_3 : w41.cell? ⟨gb477, 3, none⟩ = some (.string (⟨#[]⟩ : ByteArray)) := (blk_cell BK477.out 3).trans rfl; have hfz42_0 := blk_frozen BK477.out 0; have hfz42_1 := blk_frozen BK477.out 1; have hfz42_2 := blk_frozen BK477.out 2; have hfz42_3 := blk_frozen BK477.out 3))
            refine bodyPost_ret (results_ctt rfl _ _ gb477 50 #[.int .i64 t481, .int .i64 t482, .float .f64 t483, .string t484] (0, 0) _ rfl (by (with_reducible repeat (first | refine blk_drewN ?_ _ | refine blk_drew ?_ | refine blk_alloc ?_ _)); refine blk_put (cs := #[.int .i64 t481, .int .i64 t482, .float .f64 t483, .string (⟨#[]⟩ : ByteArray)]) ?_ 3 _ rfl; (with_reducible repeat (first | refine blk_drewN ?_ _ | refine blk_drew ?_ | refine blk_alloc ?_ _)); refine blk_put (cs := #[.int .i64 t481, .int .i64 t482, .float .f64 0, .string (⟨#[]⟩ : ByteArray)]) ?_ 2 _ rfl; (with_reducible repeat (first | refine blk_drewN ?_ _ | refine blk_drew ?_ | refine blk_alloc ?_ _)); refine blk_put (cs := #[.int .i64 t481, .int .i64 0, .float .f64 0, .string (⟨#[]⟩ : ByteArray)]) ?_ 1 _ rfl; (with_reducible repeat (first | refine blk_drewN ?_ _ | refine blk_drew ?_ | refine blk_alloc ?_ _)); refine blk_put (cs := #[.int .i64 0, .int .i64 0, .float .f64 0, .string (⟨#[]⟩ : ByteArray)]) ?_ 0 _ rfl; (with_reducible repeat (first | refine blk_drewN ?_ _ | refine blk_drew ?_ | refine blk_alloc ?_ _)); exact BK477.out) Tryd.underlying50 rfl (by kernel_rfl)) rfl ?_
            exact ⟨by first | rfl | (simp [errW_none, errW_some] <;> rfl) | (simp [*, errW_none, errW_some] <;> rfl), by repeat (first | (with_reducible first | exact HB.out | apply below_alloc | apply pw_below_drewN | apply below_drew1 | refine below_set ?_ GE477.out) | exact HB.out)⟩
          · rw [if_neg c37] at H
            have c37b0 : ((bt a0 0) == 3) = false := beq_eq_false_iff_ne.mpr c37
            have c37b1 : ((bt a0 0) != 3) = true := bne_iff_ne.mpr c37
            by_cases c43 : (bt a0 0) = 4
            · rw [if_pos c43] at H
              have c43b0 : ((bt a0 0) == 4) = true := beq_iff_eq.mpr c43
              have c43b1 : ((bt a0 0) != 4) = false := bne_eq_false_iff_eq.mpr c43
              clear c43
              replace H := Option.bind_eq_some_iff.mp H
              obtain ⟨⟨t487, t488, t489, t490, t491, t492⟩, A440, H⟩ := H
              replace H : (some (t487, t488, t489, t490, t491, t492)) = some (r1, r2, r3, r4, r5, r6) := H
              have A44 := Aside0.mk A440
              clear A440
              simp only [Option.some.injEq, Prod.mk.injEq] at H
              obtain ⟨rfl, rfl, rfl, rfl, rfl, rfl⟩ := H
              go_enter Tryd.func72, Tryd.ntmps72
              try go_wp2_with (first | ((with_reducible refine gate_dst (N := 2) rfl ?_); refine box_event ?hg (N := 2) ?hd (cs := #[.int .i64 0, .int .i64 0, .float .f64 0, .string (⟨#[]⟩ : ByteArray)]) (t := 50) ?hr ?_; (case hd => rfl); (case hg => rfl); (case hr => first | (go_simp; done) | (go_simp; rfl)); intro gb477 hg w45 hbox hb; have n0_ := Aside0.mk (below_step (by repeat (first | (with_reducible first | exact HB.out | apply below_alloc | apply pw_below_drewN | apply below_drew1) | exact HB.out)) hb); have n1_ := Aside0.mk (hbox); have n2_ := Aside0.mk ((by rw [hg]; exact (below_size (by repeat (first | (with_reducible first | exact HB.out | apply below_alloc | apply pw_below_drewN | apply below_drew1) | exact HB.out))) : w.heap.size ≤ gb477)); have n3_ := Aside0.mk ((by rw [hg]; exact (below_size (by repeat (first | (with_reducible first | exact HB.out | apply below_alloc | apply pw_below_drewN | apply below_drew1) | exact HB.out))) : w.heap.size ≤ gb477)); clear HB; have HB := n0_; have BK477 := n1_; have GW477 := n2_; have GE477 := n3_; clear n0_ n1_ n2_ n3_; clear hb hbox hg))
              have n0_ := Aside0.mk (blk_drew BK477.out)
              have n1_ := Aside0.mk (below_drew1 HB.out)
              clear BK477
              clear HB
              have BK477 := n0_
              have HB := n1_
              clear n0_ n1_
              have p3 : 0 ≤ (0 : Int) := (by omega)
              have q3 : 0 < a0.size := (by have : (0 : Int) < (a0.size : Int) := of_decide_eq_true (by first | (with_reducible assumption) | assumption); omega)
              have hx3 : ∀ h : 0 < a0.size, ((a0[0]'h).toNat : Int) = bt a0 0 := bt_at a0 0
              clear p3
              have qi3 : (0 < (a0.size : Int)) = True := eq_true (of_decide_eq_true (by first | (with_reducible assumption) | assumption))
              replace q3 := eq_true q3
              refine start_ (n := 6) (S := fun w' => True) (ds := []) #[false, false, false, false, false, false] (by kernel_rfl) rfl rfl trivial (fun hHeld => ?_)
              generalize w45.drew = w46 at BK477 HB hHeld ⊢
              refine pure_ (i := 0) (N := some 13) (v := ?_) (a' := ?_) #[true, false, false, false, false, false] rfl rfl (by kernel_rfl) (fun _ _ _ h => h) (Or.inl ⟨by rfl, ?_⟩) ?_ ?_
              rotate_left
              · intro w'
                go_simp
                with_reducible rfl
              rotate_left
              · simp only [Act.put, List.setIfInBounds_toArray, List.set_cons_zero, List.set_cons_succ, i64_w, i32_w]
                rfl
              refine pure_ (i := 2) (N := some 15) (v := ?_) (a' := ?_) #[true, false, true, false, false, false] rfl rfl (by kernel_rfl) (fun _ _ _ h => h) (Or.inl ⟨by rfl, ?_⟩) ?_ ?_
              rotate_left
              · intro w'
                go_simp
                with_reducible rfl
              rotate_left
              · simp only [Act.put, List.setIfInBounds_toArray, List.set_cons_zero, List.set_cons_succ, i64_w, i32_w]
                rfl
              refine pure_ (i := 3) (N := some 16) (v := ?_) (a' := ?_) #[true, false, true, true, false, false] rfl rfl (by kernel_rfl) (fun _ _ _ h => h) (Or.inl ⟨by rfl, ?_⟩) ?_ ?_
              rotate_left
              · intro w'
                go_simp
                with_reducible rfl
              rotate_left
              · simp only [Act.put, List.setIfInBounds_toArray, List.set_cons_zero, List.set_cons_succ, i64_w, i32_w]
                rfl
              refine take_ (i := 1) (N := some 14) (v := ?_) (a' := ?_) #[true, true, true, true, false, false] rfl rfl (by kernel_rfl) (fun _ _ _ h => h) (Or.inl ⟨by rfl, ?_⟩) hHeld ?_ ?_
              rotate_left
              · intro w' _
                go_simp
                with_reducible rfl
              rotate_left
              · simp only [Act.put, List.setIfInBounds_toArray, List.set_cons_zero, List.set_cons_succ, i64_w, i32_w]
                rfl
              refine pure_ (i := 4) (N := some 5) (v := ?_) (a' := ?_) #[true, true, true, true, true, false] rfl rfl (by kernel_rfl) (fun _ _ _ h => h) (Or.inl ⟨by rfl, ?_⟩) ?_ ?_
              rotate_left
              · intro w'
                go_simp
                with_reducible rfl
              rotate_left
              · simp only [Act.put, List.setIfInBounds_toArray, List.set_cons_zero, List.set_cons_succ, i64_w, i32_w]
                rfl
              refine pure_ (i := 5) (N := some 0) (v := ?_) (a' := ?_) #[true, true, true, true, true, true] rfl rfl (by kernel_rfl) (fun _ _ _ h => h) (Or.inl ⟨by rfl, ?_⟩) ?_ ?_
              rotate_left
              · intro w'
                go_simp
                with_reducible rfl
              rotate_left
              · simp only [Act.put, List.setIfInBounds_toArray, List.set_cons_zero, List.set_cons_succ, i64_w, i32_w]
                rfl
              refine done_ (by kernel_rfl) ?_
              try go_wp2_with (first | ((with_reducible refine gate_callee (f := 112) rfl ?_); refine goesL_ (some 53) rfl rfl Tryd.func112 (by kernel_rfl) rfl #[.string (a0.extract 1 a0.size)] rfl (by (try simp only [List.map_toArray, List.map_cons, List.map_nil]); first | done | rfl | (simp only [List.length_drop, List.length_take]; rfl)) ?_; (with_reducible refine (code_getFloat.calls k (a0.extract 1 a0.size) t487 t488 t489 t490 t491 t492 _ A44.out).mono ?_); rintro e w47 ⟨rfl, hb⟩; refine ⟨_, rfl, ?_⟩; have n0_ := Aside0.mk (blk_below (g := gb477) (o := .cells #[.int .i64 0, .int .i64 0, .float .f64 0, .string (⟨#[]⟩ : ByteArray)] 50 (0, 0)) (by (with_reducible repeat (first | refine blk_drewN ?_ _ | refine blk_drew ?_ | refine blk_alloc ?_ _)); exact BK477.out) hb); have n1_ := Aside0.mk (below_step (by repeat (first | (with_reducible first | exact HB.out | apply below_alloc | apply pw_below_drewN | apply below_drew1 | refine below_set ?_ GE477.out) | exact HB.out)) hb); clear BK477; clear HB; have BK477 := n0_; have HB := n1_; clear n0_ n1_; (try clear hb); (try clear hb2); (try clear hk); (try clear hi); have hcz48_0 : w47.cell? ⟨gb477, 0, none⟩ = some (.int .i64 0) := (blk_cell BK477.out 0).trans rfl; have hcz48_1 : w47.cell? ⟨gb477, 1, none⟩ = some (.int .i64 0) := (blk_cell BK477.out 1).trans rfl; have hcz48_2 : w47.cell? ⟨gb477, 2, none⟩ = some (.float .f64 0) := (blk_cell BK477.out 2).trans rfl; have hcz48_3 : w47.cell? ⟨gb477, 3, none⟩ = some (.string (⟨#[]⟩ : ByteArray)) := (blk_cell BK477.out 3).trans rfl; have hfz48_0 := blk_frozen BK477.out 0; have hfz48_1 := blk_frozen BK477.out 1; have hfz48_2 := blk_frozen BK477.out 2; have hfz48_3 := blk_frozen BK477.out 3))
              refine bodyPost_ret (results_ctt rfl _ _ gb477 50 #[.int .i64 t487, .int .i64 t488, .float .f64 t489, .string t490] (0, 0) _ rfl (by (with_reducible repeat (first | refine blk_drewN ?_ _ | refine blk_drew ?_ | refine blk_alloc ?_ _)); refine blk_put (cs := #[.int .i64 t487, .int .i64 t488, .float .f64 t489, .string (⟨#[]⟩ : ByteArray)]) ?_ 3 _ rfl; (with_reducible repeat (first | refine blk_drewN ?_ _ | refine blk_drew ?_ | refine blk_alloc ?_ _)); refine blk_put (cs := #[.int .i64 t487, .int .i64 t488, .float .f64 0, .string (⟨#[]⟩ : ByteArray)]) ?_ 2 _ rfl; (with_reducible repeat (first | refine blk_drewN ?_ _ | refine blk_drew ?_ | refine blk_alloc ?_ _)); refine blk_put (cs := #[.int .i64 t487, .int .i64 0, .float .f64 0, .string (⟨#[]⟩ : ByteArray)]) ?_ 1 _ rfl; (with_reducible repeat (first | refine blk_drewN ?_ _ | refine blk_drew ?_ | refine blk_alloc ?_ _)); refine blk_put (cs := #[.int .i64 0, .int .i64 0, .float .f64 0, .string (⟨#[]⟩ : ByteArray)]) ?_ 0 _ rfl; (with_reducible repeat (first | refine blk_drewN ?_ _ | refine blk_drew ?_ | refine blk_alloc ?_ _)); exact BK477.out) Tryd.underlying50 rfl (by kernel_rfl)) rfl ?_
              exact ⟨by first | rfl | (simp [errW_none, errW_some] <;> rfl) | (simp [*, errW_none, errW_some] <;> rfl), by repeat (first | (with_reducible first | exact HB.out | apply below_alloc | apply pw_below_drewN | apply below_drew1 | refine below_set ?_ GE477.out) | exact HB.out)⟩
            · rw [if_neg c43] at H
              have c43b0 : ((bt a0 0) == 4) = false := beq_eq_false_iff_ne.mpr c43
              have c43b1 : ((bt a0 0) != 4) = true := bne_iff_ne.mpr c43
              have HC49 := Aside0.mk H
              clear H
              go_enter Tryd.func72, Tryd.ntmps72
              try go_wp2_with (first | ((with_reducible refine gate_dst (N := 2) rfl ?_); refine box_event ?hg (N := 2) ?hd (cs := #[.int .i64 0, .int .i64 0, .float .f64 0, .string (⟨#[]⟩ : ByteArray)]) (t := 50) ?hr ?_; (case hd => rfl); (case hg => rfl); (case hr => first | (go_simp; done) | (go_simp; rfl)); intro gb477 hg w50 hbox hb; have n0_ := Aside0.mk (below_step (by repeat (first | (with_reducible first | exact HB.out | apply below_alloc | apply pw_below_drewN | apply below_drew1) | exact HB.out)) hb); have n1_ := Aside0.mk (hbox); have n2_ := Aside0.mk ((by rw [hg]; exact (below_size (by repeat (first | (with_reducible first | exact HB.out | apply below_alloc | apply pw_below_drewN | apply below_drew1) | exact HB.out))) : w.heap.size ≤ gb477)); have n3_ := Aside0.mk ((by rw [hg]; exact (below_size (by repeat (first | (with_reducible first | exact HB.out | apply below_alloc | apply pw_below_drewN | apply below_drew1) | exact HB.out))) : w.heap.size ≤ gb477)); clear HB; have HB := n0_; have BK477 := n1_; have GW477 := n2_; have GE477 := n3_; clear n0_ n1_ n2_ n3_; clear hb hbox hg))
              have n0_ := Aside0.mk (blk_drew BK477.out)
              have n1_ := Aside0.mk (below_drew1 HB.out)
              clear BK477
              clear HB
              have BK477 := n0_
              have HB := n1_
              clear n0_ n1_
              have p3 : 0 ≤ (0 : Int) := (by omega)
              have q3 : 0 < a0.size := (by have : (0 : Int) < (a0.size : Int) := of_decide_eq_true (by first | (with_reducible assumption) | assumption); omega)
              have hx3 : ∀ h : 0 < a0.size, ((a0[0]'h).toNat : Int) = bt a0 0 := bt_at a0 0
              clear p3
              have qi3 : (0 < (a0.size : Int)) = True := eq_true (of_decide_eq_true (by first | (with_reducible assumption) | assumption))
              replace q3 := eq_true q3
              refine start_ (n := 6) (S := fun w' => True) (ds := []) #[false, false, false, false, false, false] (by kernel_rfl) rfl rfl trivial (fun hHeld => ?_)
              generalize w50.drew = w51 at BK477 HB hHeld ⊢
              refine pure_ (i := 0) (N := some 13) (v := ?_) (a' := ?_) #[true, false, false, false, false, false] rfl rfl (by kernel_rfl) (fun _ _ _ h => h) (Or.inl ⟨by rfl, ?_⟩) ?_ ?_
              rotate_left
              · intro w'
                go_simp
                with_reducible rfl
              rotate_left
              · simp only [Act.put, List.setIfInBounds_toArray, List.set_cons_zero, List.set_cons_succ, i64_w, i32_w]
                rfl
              refine pure_ (i := 2) (N := some 15) (v := ?_) (a' := ?_) #[true, false, true, false, false, false] rfl rfl (by kernel_rfl) (fun _ _ _ h => h) (Or.inl ⟨by rfl, ?_⟩) ?_ ?_
              rotate_left
              · intro w'
                go_simp
                with_reducible rfl
              rotate_left
              · simp only [Act.put, List.setIfInBounds_toArray, List.set_cons_zero, List.set_cons_succ, i64_w, i32_w]
                rfl
              refine pure_ (i := 3) (N := some 16) (v := ?_) (a' := ?_) #[true, false, true, true, false, false] rfl rfl (by kernel_rfl) (fun _ _ _ h => h) (Or.inl ⟨by rfl, ?_⟩) ?_ ?_
              rotate_left
              · intro w'
                go_simp
                with_reducible rfl
              rotate_left
              · simp only [Act.put, List.setIfInBounds_toArray, List.set_cons_zero, List.set_cons_succ, i64_w, i32_w]
                rfl
              refine take_ (i := 1) (N := some 14) (v := ?_) (a' := ?_) #[true, true, true, true, false, false] rfl rfl (by kernel_rfl) (fun _ _ _ h => h) (Or.inl ⟨by rfl, ?_⟩) hHeld ?_ ?_
              rotate_left
              · intro w' _
                go_simp
                with_reducible rfl
              rotate_left
              · simp only [Act.put, List.setIfInBounds_toArray, List.set_cons_zero, List.set_cons_succ, i64_w, i32_w]
                rfl
              refine pure_ (i := 4) (N := some 5) (v := ?_) (a' := ?_) #[true, true, true, true, true, false] rfl rfl (by kernel_rfl) (fun _ _ _ h => h) (Or.inl ⟨by rfl, ?_⟩) ?_ ?_
              rotate_left
              · intro w'
                go_simp
                with_reducible rfl
              rotate_left
              · simp only [Act.put, List.setIfInBounds_toArray, List.set_cons_zero, List.set_cons_succ, i64_w, i32_w]
                rfl
              refine pure_ (i := 5) (N := some 0) (v := ?_) (a' := ?_) #[true, true, true, true, true, true] rfl rfl (by kernel_rfl) (fun _ _ _ h => h) (Or.inl ⟨by rfl, ?_⟩) ?_ ?_
              rotate_left
              · intro w'
                go_simp
                with_reducible rfl
              rotate_left
              · simp only [Act.put, List.setIfInBounds_toArray, List.set_cons_zero, List.set_cons_succ, i64_w, i32_w]
                rfl
              refine done_ (by kernel_rfl) ?_
              go_upto_if 57 with (fail)
              go_cut [57] (fun v57 wc => ∃ (kq : Nat) (x57_48 : Bool), v57 = .bool x57_48 ∧ Aside0 (code_get.j0 kq (a0.extract 1 a0.size) (bt a0 0) x57_48 = some (r1, r2, r3, r4, r5, r6)) ∧ Aside0 (kq ≤ k) ∧ Aside0 (wc.heap[gb477]? = some (.cells #[.int .i64 0, .int .i64 0, .float .f64 0, .string (⟨#[]⟩ : ByteArray)] 50 (0, 0))) ∧ Aside0 (Below w.heap.size w wc))
              case first =>
                have H := HC49.out
                clear HC49
                by_cases c52 : (bt a0 0) = 5
                · rw [if_pos c52] at H
                  have c52b0 : ((bt a0 0) == 5) = true := beq_iff_eq.mpr c52
                  have c52b1 : ((bt a0 0) != 5) = false := bne_eq_false_iff_eq.mpr c52
                  clear c52
                  (first | rw [c52b0] | (simp only [i64_w, i32_w]; rw [c52b0]) | skip)
                  have H' := Aside0.mk H
                  clear H
                  go_wp2
                  go_meet
                  case rel => exact ⟨_, (((bt a0 0) == 5)), (by first | rfl | (simp; done) | (simp [*]; done) | (simp [bool_ne_nil]; done) | (simp; exact bool_ne_nil _)), H', ⟨by first | omega | exact Nat.le_refl _⟩, ⟨by (with_reducible repeat (first | refine blk_drewN ?_ _ | refine blk_drew ?_ | refine blk_alloc ?_ _)); exact BK477.out⟩, ⟨by repeat (first | (with_reducible first | exact HB.out | apply below_alloc | apply pw_below_drewN | apply below_drew1 | refine below_set ?_ GE477.out) | exact HB.out)⟩⟩
                · rw [if_neg c52] at H
                  have c52b0 : ((bt a0 0) == 5) = false := beq_eq_false_iff_ne.mpr c52
                  have c52b1 : ((bt a0 0) != 5) = true := bne_iff_ne.mpr c52
                  (first | rw [c52b0] | (simp only [i64_w, i32_w]; rw [c52b0]) | skip)
                  have H' := Aside0.mk H
                  clear H
                  go_wp2
                  go_meet
                  case rel => exact ⟨_, (((bt a0 0) == 6)), (by first | rfl | (simp; done) | (simp [*]; done) | (simp [bool_ne_nil]; done) | (simp; exact bool_ne_nil _)), H', ⟨by first | omega | exact Nat.le_refl _⟩, ⟨by (with_reducible repeat (first | refine blk_drewN ?_ _ | refine blk_drew ?_ | refine blk_alloc ?_ _)); exact BK477.out⟩, ⟨by repeat (first | (with_reducible first | exact HB.out | apply below_alloc | apply pw_below_drewN | apply below_drew1 | refine below_set ?_ GE477.out) | exact HB.out)⟩⟩
              case rest =>
                clear HC49
                try clear c1
                try clear p1
                try clear q1
                try clear hx1
                try clear qi1
                try clear p2
                try clear q2
                try clear hx2
                try clear qi2
                try clear c3
                try clear p3
                try clear q3
                try clear hx3
                try clear qi3
                try clear c4
                try clear c5
                try clear c5b0
                try clear c5b1
                try clear p6
                try clear c7
                try clear c9
                try clear c9b0
                try clear c9b1
                try clear c11
                try clear c12
                try clear c12b0
                try clear c12b1
                try clear p13
                try clear q13
                try clear hx13
                try clear qi13
                try clear c14
                try clear c14b0
                try clear p22
                try clear q22
                try clear hx22
                try clear qi22
                try clear c37
                try clear c37b0
                try clear c37b1
                try clear c43
                try clear c43b0
                try clear c43b1
                try clear c52
                try clear c52b0
                try clear c52b1
                try clear hcz21_0
                try clear hcz21_1
                try clear hcz21_2
                try clear hcz21_3
                try clear hcz29_0
                try clear hcz29_1
                try clear hcz29_2
                try clear hcz29_3
                try clear hcz36_0
                try clear hcz36_1
                try clear hcz36_2
                try clear hcz36_3
                try clear hcz42_0
                try clear hcz42_1
                try clear hcz42_2
                try clear hcz42_3
                try clear hcz48_0
                try clear hcz48_1
                try clear hcz48_2
                try clear hcz48_3
                try clear hcz8_0
                try clear hcz8_1
                try clear hcz8_2
                try clear hcz8_3
                try clear hfz21_0
                try clear hfz21_1
                try clear hfz21_2
                try clear hfz21_3
                try clear hfz29_0
                try clear hfz29_1
                try clear hfz29_2
                try clear hfz29_3
                try clear hfz36_0
                try clear hfz36_1
                try clear hfz36_2
                try clear hfz36_3
                try clear hfz42_0
                try clear hfz42_1
                try clear hfz42_2
                try clear hfz42_3
                try clear hfz48_0
                try clear hfz48_1
                try clear hfz48_2
                try clear hfz48_3
                try clear hfz8_0
                try clear hfz8_1
                try clear hfz8_2
                try clear hfz8_3
                try clear p13
                try clear p22
                try clear p3
                try clear q13
                try clear q22
                try clear q3
                obtain ⟨kq, x57_48, rfl, HA, HJ48, BK477, HB⟩ := hcut
                cases kq with
                | zero => exact absurd HA.out (by simp [code_get.j0])
                | succ kj48 =>
                  have H := HA.out
                  clear HA
                  simp only [code_get.j0] at H
                  by_cases c53 : x57_48 = true
                  · subst c53
                    have H1 : ((code_getString.f (a0.extract 1 a0.size)).bind fun bt493 => (if (bt a0 0) = 6 then (if bt493.2.2 = true then ((value_Check.f kj48 5 0 0 bt493.1).bind fun t497 => (some (5, 0, 0, bt493.1, bt493.2.1, (t497 == 0)))) else (some (5, 0, 0, bt493.1, bt493.2.1, false))) else (if bt493.2.2 = true then ((value_Check.f kj48 4 0 0 bt493.1).bind fun t498 => (some (4, 0, 0, bt493.1, bt493.2.1, (t498 == 0)))) else (some (4, 0, 0, bt493.1, bt493.2.1, false))))) = some (r1, r2, r3, r4, r5, r6) := by rw [if_pos rfl] at H; exact H
                    clear H
                    have H := H1
                    clear H1
                    replace H := Option.bind_eq_some_iff.mp H
                    obtain ⟨⟨t493, t494, t495⟩, A540, H⟩ := H
                    replace H : (if (bt a0 0) = 6 then (if t495 = true then ((value_Check.f kj48 5 0 0 t493).bind fun t497 => (some (5, 0, 0, t493, t494, (t497 == 0)))) else (some (5, 0, 0, t493, t494, false))) else (if t495 = true then ((value_Check.f kj48 4 0 0 t493).bind fun t498 => (some (4, 0, 0, t493, t494, (t498 == 0)))) else (some (4, 0, 0, t493, t494, false)))) = some (r1, r2, r3, r4, r5, r6) := H
                    have A54 := Aside0.mk A540
                    clear A540
                    by_cases c55 : (bt a0 0) = 6
                    · rw [if_pos c55] at H
                      have c55b0 : ((bt a0 0) == 6) = true := beq_iff_eq.mpr c55
                      have c55b1 : ((bt a0 0) != 6) = false := bne_eq_false_iff_eq.mpr c55
                      clear c55
                      by_cases c56 : t495 = true
                      · subst c56
                        have H1 : ((value_Check.f kj48 5 0 0 t493).bind fun t497 => (some (5, 0, 0, t493, t494, (t497 == 0)))) = some (r1, r2, r3, r4, r5, r6) := by rw [if_pos rfl] at H; exact H
                        clear H
                        have H := H1
                        clear H1
                        replace H := Option.bind_eq_some_iff.mp H
                        obtain ⟨t497, A570, H⟩ := H
                        replace H : (some (5, 0, 0, t493, t494, (t497 == 0))) = some (r1, r2, r3, r4, r5, r6) := H
                        have A57 := Aside0.mk A570
                        clear A570
                        simp only [Option.some.injEq, Prod.mk.injEq] at H
                        obtain ⟨rfl, rfl, rfl, rfl, rfl, rfl⟩ := H
                        try go_wp2_with (first | ((with_reducible refine gate_callee (f := 113) rfl ?_); refine goesL_ (some 62) rfl rfl Tryd.func113 (by kernel_rfl) rfl #[.string (a0.extract 1 a0.size)] rfl (by (try simp only [List.map_toArray, List.map_cons, List.map_nil]); first | done | rfl | (simp only [List.length_drop, List.length_take]; rfl)) ?_; (with_reducible refine (code_getString.calls (a0.extract 1 a0.size) t493 t494 true _ A54.out).mono ?_); rintro e w58 ⟨rfl, hb⟩; refine ⟨_, rfl, ?_⟩; have n0_ := Aside0.mk (blk_below (g := gb477) (o := .cells #[.int .i64 0, .int .i64 0, .float .f64 0, .string (⟨#[]⟩ : ByteArray)] 50 (0, 0)) (by (with_reducible repeat (first | refine blk_drewN ?_ _ | refine blk_drew ?_ | refine blk_alloc ?_ _)); exact BK477.out) hb); have n1_ := Aside0.mk (below_step (by repeat (first | (with_reducible first | exact HB.out | apply below_alloc | apply pw_below_drewN | apply below_drew1 | refine below_set ?_ GE477.out) | exact HB.out)) hb); clear BK477; clear HB; have BK477 := n0_; have HB := n1_; clear n0_ n1_; (try clear hb); (try clear hb2); (try clear hk); (try clear hi)) | ((with_reducible refine gate_dst (N := 12) rfl ?_); refine box_event ?hg (N := 12) ?hd (cs := #[.int .i64 0, .int .i64 0, .float .f64 0, .string (⟨#[]⟩ : ByteArray)]) (t := 50) ?hr ?_; (case hd => rfl); (case hg => rfl); (case hr => first | (go_simp; done) | (go_simp; rfl)); intro gb496 hg w59 hbox hb; have n0_ := Aside0.mk (blk_below (g := gb477) (o := .cells #[.int .i64 0, .int .i64 0, .float .f64 0, .string (⟨#[]⟩ : ByteArray)] 50 (0, 0)) (by (with_reducible repeat (first | refine blk_drewN ?_ _ | refine blk_drew ?_ | refine blk_alloc ?_ _)); exact BK477.out) hb); have n1_ := Aside0.mk (below_step (by repeat (first | (with_reducible first | exact HB.out | apply below_alloc | apply pw_below_drewN | apply below_drew1 | refine below_set ?_ GE477.out) | exact HB.out)) hb); have n2_ := Aside0.mk (hbox); have n3_ := Aside0.mk ((by rw [hg]; exact (below_size (by repeat (first | (with_reducible first | exact HB.out | apply below_alloc | apply pw_below_drewN | apply below_drew1 | refine below_set ?_ GE477.out) | exact HB.out))) : w.heap.size ≤ gb496)); have n4_ := Aside0.mk ((by rw [hg]; exact (below_size (by repeat (first | (with_reducible first | exact HB.out | apply below_alloc | apply pw_below_drewN | apply below_drew1 | refine below_set ?_ GE477.out) | exact HB.out))) : w.heap.size ≤ gb496)); have n5_ := Aside0.mk ((by rw [hg]; exact Nat.ne_of_lt (blk_lt (g := gb477) (o := .cells #[.int .i64 0, .int .i64 0, .float .f64 0, .string (⟨#[]⟩ : ByteArray)] 50 (0, 0)) (by (with_reducible repeat (first | refine blk_drewN ?_ _ | refine blk_drew ?_ | refine blk_alloc ?_ _)); exact BK477.out)) : gb477 ≠ gb496)); have n6_ := Aside0.mk ((by rw [hg]; exact Nat.ne_of_gt (blk_lt (g := gb477) (o := .cells #[.int .i64 0, .int .i64 0, .float .f64 0, .string (⟨#[]⟩ : ByteArray)] 50 (0, 0)) (by (with_reducible repeat (first | refine blk_drewN ?_ _ | refine blk_drew ?_ | refine blk_alloc ?_ _)); exact BK477.out)) : gb496 ≠ gb477)); clear BK477; clear HB; have BK477 := n0_; have HB := n1_; have BK496 := n2_; have GW496 := n3_; have GE496 := n4_; have NB477_496 := n5_; have NB496_477 := n6_; clear n0_ n1_ n2_ n3_ n4_ n5_ n6_; clear hb hbox hg; have hnb60 := NB496_477.out; have hnc60 := NB477_496.out; have hcz61_0 : w59.cell? ⟨gb496, 0, none⟩ = some (.int .i64 0) := (blk_cell BK496.out 0).trans rfl; have hcz61_1 : w59.cell? ⟨gb496, 1, none⟩ = some (.int .i64 0) := (blk_cell BK496.out 1).trans rfl; have hcz61_2 : w59.cell? ⟨gb496, 2, none⟩ = some (.float .f64 0) := (blk_cell BK496.out 2).trans rfl; have hcz61_3 : w59.cell? ⟨gb496, 3, none⟩ = some (.string (⟨#[]⟩ : ByteArray)) := (blk_cell BK496.out 3).trans rfl; have hfz61_0 := blk_frozen BK496.out 0; have hfz61_1 := blk_frozen BK496.out 1; have hfz61_2 := blk_frozen BK496.out 2; have hfz61_3 := blk_frozen BK496.out 3))
                        have n0_ : Aside0 ((((((w59.setCell ⟨gb496, 0, none⟩ (.int .i64 4)).setCell ⟨gb496, 1, none⟩ (.int .i64 0)).setCell ⟨gb496, 2, none⟩ (.float .f64 0)).setCell ⟨gb496, 3, none⟩ (.string t493)).setCell ⟨gb496, 0, none⟩ (.int .i64 5)).heap[gb477]? = some (.cells #[.int .i64 0, .int .i64 0, .float .f64 0, .string (⟨#[]⟩ : ByteArray)] 50 (0, 0))) := ⟨by (with_reducible repeat (first | refine blk_drewN ?_ _ | refine blk_drew ?_ | refine blk_alloc ?_ _)); refine blk_far ?_ NB477_496.out _; (with_reducible repeat (first | refine blk_drewN ?_ _ | refine blk_drew ?_ | refine blk_alloc ?_ _)); refine blk_far ?_ NB477_496.out _; (with_reducible repeat (first | refine blk_drewN ?_ _ | refine blk_drew ?_ | refine blk_alloc ?_ _)); refine blk_far ?_ NB477_496.out _; (with_reducible repeat (first | refine blk_drewN ?_ _ | refine blk_drew ?_ | refine blk_alloc ?_ _)); refine blk_far ?_ NB477_496.out _; (with_reducible repeat (first | refine blk_drewN ?_ _ | refine blk_drew ?_ | refine blk_alloc ?_ _)); refine blk_far ?_ NB477_496.out _; (with_reducible repeat (first | refine blk_drewN ?_ _ | refine blk_drew ?_ | refine blk_alloc ?_ _)); exact BK477.out⟩
                        have n1_ : Aside0 ((((((w59.setCell ⟨gb496, 0, none⟩ (.int .i64 4)).setCell ⟨gb496, 1, none⟩ (.int .i64 0)).setCell ⟨gb496, 2, none⟩ (.float .f64 0)).setCell ⟨gb496, 3, none⟩ (.string t493)).setCell ⟨gb496, 0, none⟩ (.int .i64 5)).heap[gb496]? = some (.cells #[.int .i64 5, .int .i64 0, .float .f64 0, .string t493] 50 (0, 0))) := ⟨by (with_reducible repeat (first | refine blk_drewN ?_ _ | refine blk_drew ?_ | refine blk_alloc ?_ _)); refine blk_put (cs := #[.int .i64 4, .int .i64 0, .float .f64 0, .string t493]) ?_ 0 _ rfl; (with_reducible repeat (first | refine blk_drewN ?_ _ | refine blk_drew ?_ | refine blk_alloc ?_ _)); refine blk_put (cs := #[.int .i64 4, .int .i64 0, .float .f64 0, .string (⟨#[]⟩ : ByteArray)]) ?_ 3 _ rfl; (with_reducible repeat (first | refine blk_drewN ?_ _ | refine blk_drew ?_ | refine blk_alloc ?_ _)); refine blk_put (cs := #[.int .i64 4, .int .i64 0, .float .f64 0, .string (⟨#[]⟩ : ByteArray)]) ?_ 2 _ rfl; (with_reducible repeat (first | refine blk_drewN ?_ _ | refine blk_drew ?_ | refine blk_alloc ?_ _)); refine blk_put (cs := #[.int .i64 4, .int .i64 0, .float .f64 0, .string (⟨#[]⟩ : ByteArray)]) ?_ 1 _ rfl; (with_reducible repeat (first | refine blk_drewN ?_ _ | refine blk_drew ?_ | refine blk_alloc ?_ _)); refine blk_put (cs := #[.int .i64 0, .int .i64 0, .float .f64 0, .string (⟨#[]⟩ : ByteArray)]) ?_ 0 _ rfl; (with_reducible repeat (first | refine blk_drewN ?_ _ | refine blk_drew ?_ | refine blk_alloc ?_ _)); exact BK496.out⟩
                        have n2_ : Aside0 (Below w.heap.size w (((((w59.setCell ⟨gb496, 0, none⟩ (.int .i64 4)).setCell ⟨gb496, 1, none⟩ (.int .i64 0)).setCell ⟨gb496, 2, none⟩ (.float .f64 0)).setCell ⟨gb496, 3, none⟩ (.string t493)).setCell ⟨gb496, 0, none⟩ (.int .i64 5))) := ⟨by repeat (first | (with_reducible first | exact HB.out | apply below_alloc | apply pw_below_drewN | apply below_drew1 | refine below_set ?_ GE477.out | refine below_set ?_ GE496.out) | exact HB.out)⟩
                        (try clear BK477)
                        (try clear BK496)
                        (try clear HB)
                        generalize (((((w59.setCell ⟨gb496, 0, none⟩ (.int .i64 4)).setCell ⟨gb496, 1, none⟩ (.int .i64 0)).setCell ⟨gb496, 2, none⟩ (.float .f64 0)).setCell ⟨gb496, 3, none⟩ (.string t493)).setCell ⟨gb496, 0, none⟩ (.int .i64 5)) = w62 at n0_ n1_ n2_ ⊢
                        have BK477 := n0_
                        have BK496 := n1_
                        have HB := n2_
                        clear n0_ n1_ n2_
                        have n0_ := Aside0.mk (blk_drew BK477.out)
                        have n1_ := Aside0.mk (blk_drew BK496.out)
                        have n2_ := Aside0.mk (below_drew1 HB.out)
                        clear BK477
                        clear BK496
                        clear HB
                        have BK477 := n0_
                        have BK496 := n1_
                        have HB := n2_
                        clear n0_ n1_ n2_
                        refine start_ (n := 11) (S := fun w' => w'.cell? ⟨gb496, 0, none⟩ = some (.int .i64 5) ∧ w'.cell? ⟨gb496, 1, none⟩ = some (.int .i64 0) ∧ w'.cell? ⟨gb496, 2, none⟩ = some (.float .f64 0) ∧ w'.cell? ⟨gb496, 3, none⟩ = some (.string t493)) (ds := []) #[false, false, false, false, false, false, false, false, false, false, false] (by kernel_rfl) rfl rfl ⟨(blk_cell BK496.out 0).trans rfl, (blk_cell BK496.out 1).trans rfl, (blk_cell BK496.out 2).trans rfl, (blk_cell BK496.out 3).trans rfl⟩ (fun hHeld => ?_); refine with_tabW code_get.tab20 code_get.bits20 (fun HT_ HW_ => ?_)
                        generalize w62.drew = w63 at BK477 BK496 HB hHeld ⊢
                        refine pure_ (i := 1) (N := some 72) (v := ?_) (a' := ?_) #[false, true, false, false, false, false, false, false, false, false, false] rfl rfl (any_of HT_.out (by kernel_rfl)) (fun _ _ _ h => h) (Or.inl ⟨by rfl, ?_⟩) ?_ ?_
                        rotate_left
                        · intro w'
                          go_simp
                          with_reducible rfl
                        rotate_left
                        · simp only [Act.put, List.setIfInBounds_toArray, List.set_cons_zero, List.set_cons_succ, i64_w, i32_w]
                          rfl
                        refine pure_ (i := 2) (N := some 73) (v := ?_) (a' := ?_) #[false, true, true, false, false, false, false, false, false, false, false] rfl rfl (any_of HT_.out (by kernel_rfl)) (fun _ _ _ h => h) (Or.inl ⟨by rfl, ?_⟩) ?_ ?_
                        rotate_left
                        · intro w'
                          go_simp
                          with_reducible rfl
                        rotate_left
                        · simp only [Act.put, List.setIfInBounds_toArray, List.set_cons_zero, List.set_cons_succ, i64_w, i32_w]
                          rfl
                        refine pure_ (i := 3) (N := some 74) (v := ?_) (a' := ?_) #[false, true, true, true, false, false, false, false, false, false, false] rfl rfl (any_of HT_.out (by kernel_rfl)) (fun _ _ _ h => h) (Or.inl ⟨by rfl, ?_⟩) ?_ ?_
                        rotate_left
                        · intro w'
                          go_simp
                          with_reducible rfl
                        rotate_left
                        · simp only [Act.put, List.setIfInBounds_toArray, List.set_cons_zero, List.set_cons_succ, i64_w, i32_w]
                          rfl
                        refine take_ (i := 0) (N := some 71) (v := ?_) (a' := ?_) #[true, true, true, true, false, false, false, false, false, false, false] rfl rfl (take_ofW HT_.out HW_.out (by kernel_rfl)) (fun _ _ _ h => h) (Or.inl ⟨by rfl, ?_⟩) hHeld ?_ ?_
                        rotate_left
                        · rintro w' ⟨s0, s1, s2, s3⟩
                          go_simp
                          with_reducible rfl
                        rotate_left
                        · simp only [Act.put, List.setIfInBounds_toArray, List.set_cons_zero, List.set_cons_succ, i64_w, i32_w]
                          rfl
                        refine take_ (i := 4) (N := some 75) (v := ?_) (a' := ?_) #[true, true, true, true, true, false, false, false, false, false, false] rfl rfl (take_ofW HT_.out HW_.out (by kernel_rfl)) (fun _ _ _ h => h) (Or.inl ⟨by rfl, ?_⟩) hHeld ?_ ?_
                        rotate_left
                        · rintro w' ⟨s0, s1, s2, s3⟩
                          go_simp
                          with_reducible rfl
                        rotate_left
                        · simp only [Act.put, List.setIfInBounds_toArray, List.set_cons_zero, List.set_cons_succ, i64_w, i32_w]
                          rfl
                        refine one_ (i := 5) (N := some 76) #[true, true, true, true, true, true, false, false, false, false, false] rfl rfl (one_of HT_.out (by kernel_rfl)) (by decide) (fun K hK => ?_)
                        refine goes_ Tryd.func67 (by kernel_rfl) rfl #[.agg #[.int .i64 5, .int .i64 0, .float .f64 0, .string t493]] (by rfl) rfl rfl (by (try simp only [List.map_toArray, List.map_cons, List.map_nil]); first | done | rfl | (simp only [List.length_drop, List.length_take]; rfl)) ?_
                        with_reducible refine (value_Check.calls kj48 5 0 0 t493 t497 _ ?side1 A57.out).mono ?_
                        (case side1 => exact Glob.below HG.out (by repeat (first | (with_reducible first | exact HB.out | apply below_alloc | apply pw_below_drewN | apply below_drew1 | refine below_set ?_ GE477.out | refine below_set ?_ GE496.out) | exact HB.out)))
                        rintro e w64 ⟨rfl, hb⟩
                        refine ⟨_, rfl, ?_⟩
                        have n0_ := Aside0.mk (blk_below (g := gb477) (o := .cells #[.int .i64 0, .int .i64 0, .float .f64 0, .string (⟨#[]⟩ : ByteArray)] 50 (0, 0)) (by (with_reducible repeat (first | refine blk_drewN ?_ _ | refine blk_drew ?_ | refine blk_alloc ?_ _)); exact BK477.out) hb)
                        have n1_ := Aside0.mk (blk_below (g := gb496) (o := .cells #[.int .i64 5, .int .i64 0, .float .f64 0, .string t493] 50 (0, 0)) (by (with_reducible repeat (first | refine blk_drewN ?_ _ | refine blk_drew ?_ | refine blk_alloc ?_ _)); exact BK496.out) hb)
                        have n2_ := Aside0.mk (below_step (by repeat (first | (with_reducible first | exact HB.out | apply below_alloc | apply pw_below_drewN | apply below_drew1 | refine below_set ?_ GE477.out | refine below_set ?_ GE496.out) | exact HB.out)) hb)
                        clear BK477
                        clear BK496
                        clear HB
                        have BK477 := n0_
                        have BK496 := n1_
                        have HB := n2_
                        clear n0_ n1_ n2_
                        (try clear hb)
                        (try clear hb2)
                        (try clear hk)
                        (try clear hi)
                        refine hK.out _ _ ⟨(blk_cell BK496.out 0).trans rfl, (blk_cell BK496.out 1).trans rfl, (blk_cell BK496.out 2).trans rfl, (blk_cell BK496.out 3).trans rfl⟩ (fun hHeld => ?_)
                        clear hK K
                        refine norm_ (a' := ?_) ?_ ?_
                        rotate_left
                        · show Act.put _ (some 76) _ = _
                          simp only [Act.put, List.setIfInBounds_toArray, List.set_cons_zero, List.set_cons_succ, i64_w, i32_w]
                          rfl
                        refine pure_ (i := 6) (N := some 77) (v := ?_) (a' := ?_) #[true, true, true, true, true, true, true, false, false, false, false] rfl rfl (any_of HT_.out (by kernel_rfl)) (fun _ _ _ h => h) (Or.inl ⟨by rfl, ?_⟩) ?_ ?_
                        rotate_left
                        · intro w'
                          go_simp
                          with_reducible rfl
                        rotate_left
                        · simp only [Act.put, List.setIfInBounds_toArray, List.set_cons_zero, List.set_cons_succ, i64_w, i32_w]
                          rfl
                        refine pure_ (i := 7) (N := some 78) (v := ?_) (a' := ?_) #[true, true, true, true, true, true, true, true, false, false, false] rfl rfl (any_of HT_.out (by kernel_rfl)) (fun _ _ _ h => h) (Or.inl ⟨by rfl, ?_⟩) ?_ ?_
                        rotate_left
                        · intro w'
                          go_simp
                          with_reducible rfl
                        rotate_left
                        · simp only [Act.put, List.setIfInBounds_toArray, List.set_cons_zero, List.set_cons_succ, i64_w, i32_w]
                          rfl
                        refine one_ (i := 8) (N := none) #[true, true, true, true, true, true, true, true, true, false, false] rfl rfl (one_of HT_.out (by kernel_rfl)) (by decide) (fun K hK => ?_)
                        have hs65 : w64.cell? ⟨gb477, 0, none⟩ = some (.int .i64 0) := (blk_cell BK477.out 0).trans rfl
                        have hfs65 := blk_frozen BK477.out 0
                        have hns65_1 := NB496_477.out
                        have hms65_1 := NB477_496.out
                        have hs66 : w64.cell? ⟨gb477, 1, none⟩ = some (.int .i64 0) := (blk_cell BK477.out 1).trans rfl
                        have hfs66 := blk_frozen BK477.out 1
                        have hns66_1 := NB496_477.out
                        have hms66_1 := NB477_496.out
                        have hs67 : w64.cell? ⟨gb477, 2, none⟩ = some (.float .f64 0) := (blk_cell BK477.out 2).trans rfl
                        have hfs67 := blk_frozen BK477.out 2
                        have hns67_1 := NB496_477.out
                        have hms67_1 := NB477_496.out
                        have hs68 : w64.cell? ⟨gb477, 3, none⟩ = some (.string (⟨#[]⟩ : ByteArray)) := (blk_cell BK477.out 3).trans rfl
                        have hfs68 := blk_frozen BK477.out 3
                        have hns68_1 := NB496_477.out
                        have hms68_1 := NB477_496.out
                        refine skip_ (w1 := ?_) (by rfl) rfl ?_ ?_
                        rotate_left
                        · go_simp
                          rfl
                        refine hK.out _ _ ⟨((cell_far (p := ⟨gb477, _, none⟩) NB496_477.out _).trans (((cell_far (p := ⟨gb477, _, none⟩) NB496_477.out _).trans (((cell_far (p := ⟨gb477, _, none⟩) NB496_477.out _).trans (((cell_far (p := ⟨gb477, _, none⟩) NB496_477.out _).trans (hHeld.1)))))))), ((cell_far (p := ⟨gb477, _, none⟩) NB496_477.out _).trans (((cell_far (p := ⟨gb477, _, none⟩) NB496_477.out _).trans (((cell_far (p := ⟨gb477, _, none⟩) NB496_477.out _).trans (((cell_far (p := ⟨gb477, _, none⟩) NB496_477.out _).trans (hHeld.2.1)))))))), ((cell_far (p := ⟨gb477, _, none⟩) NB496_477.out _).trans (((cell_far (p := ⟨gb477, _, none⟩) NB496_477.out _).trans (((cell_far (p := ⟨gb477, _, none⟩) NB496_477.out _).trans (((cell_far (p := ⟨gb477, _, none⟩) NB496_477.out _).trans (hHeld.2.2.1)))))))), ((cell_far (p := ⟨gb477, _, none⟩) NB496_477.out _).trans (((cell_far (p := ⟨gb477, _, none⟩) NB496_477.out _).trans (((cell_far (p := ⟨gb477, _, none⟩) NB496_477.out _).trans (((cell_far (p := ⟨gb477, _, none⟩) NB496_477.out _).trans (hHeld.2.2.2))))))))⟩ (fun hHeld => ?_)
                        clear hK K
                        refine pure_ (i := 9) (N := some 3) (v := ?_) (a' := ?_) #[true, true, true, true, true, true, true, true, true, true, false] rfl rfl (any_of HT_.out (by kernel_rfl)) (fun _ _ _ h => h) (Or.inl ⟨by rfl, ?_⟩) ?_ ?_
                        rotate_left
                        · intro w'
                          go_simp
                          with_reducible rfl
                        rotate_left
                        · simp only [Act.put, List.setIfInBounds_toArray, List.set_cons_zero, List.set_cons_succ, i64_w, i32_w]
                          rfl
                        refine pure_ (i := 10) (N := some 4) (v := ?_) (a' := ?_) #[true, true, true, true, true, true, true, true, true, true, true] rfl rfl (any_of HT_.out (by kernel_rfl)) (fun _ _ _ h => h) (Or.inl ⟨by rfl, ?_⟩) ?_ ?_
                        rotate_left
                        · intro w'
                          go_simp
                          with_reducible rfl
                        rotate_left
                        · simp only [Act.put, List.setIfInBounds_toArray, List.set_cons_zero, List.set_cons_succ, i64_w, i32_w]
                          rfl
                        refine done_ (done_of HT_.out (by kernel_rfl)) ?_
                        try go_wp2
                        refine bodyPost_ret (results_ctt rfl _ _ gb477 50 #[.int .i64 5, .int .i64 0, .float .f64 0, .string t493] (0, 0) _ rfl (by (with_reducible repeat (first | refine blk_drewN ?_ _ | refine blk_drew ?_ | refine blk_alloc ?_ _)); refine blk_put (cs := #[.int .i64 5, .int .i64 0, .float .f64 0, .string (⟨#[]⟩ : ByteArray)]) ?_ 3 _ rfl; (with_reducible repeat (first | refine blk_drewN ?_ _ | refine blk_drew ?_ | refine blk_alloc ?_ _)); refine blk_put (cs := #[.int .i64 5, .int .i64 0, .float .f64 0, .string (⟨#[]⟩ : ByteArray)]) ?_ 2 _ rfl; (with_reducible repeat (first | refine blk_drewN ?_ _ | refine blk_drew ?_ | refine blk_alloc ?_ _)); refine blk_put (cs := #[.int .i64 5, .int .i64 0, .float .f64 0, .string (⟨#[]⟩ : ByteArray)]) ?_ 1 _ rfl; (with_reducible repeat (first | refine blk_drewN ?_ _ | refine blk_drew ?_ | refine blk_alloc ?_ _)); refine blk_put (cs := #[.int .i64 0, .int .i64 0, .float .f64 0, .string (⟨#[]⟩ : ByteArray)]) ?_ 0 _ rfl; (with_reducible repeat (first | refine blk_drewN ?_ _ | refine blk_drew ?_ | refine blk_alloc ?_ _)); exact BK477.out) Tryd.underlying50 rfl (by kernel_rfl)) rfl ?_
                        exact ⟨by first | rfl | (simp [errW_none, errW_some] <;> rfl) | (simp [*, errW_none, errW_some] <;> rfl), by repeat (first | (with_reducible first | exact HB.out | apply below_alloc | apply pw_below_drewN | apply below_drew1 | refine below_set ?_ GE477.out | refine below_set ?_ GE496.out) | exact HB.out)⟩
                      · replace c56 := Bool.eq_false_iff.mpr c56
                        subst c56
                        have H1 : (some (5, 0, 0, t493, t494, false)) = some (r1, r2, r3, r4, r5, r6) := by rw [if_neg (show ¬ (false = true) by decide)] at H; exact H
                        clear H
                        have H := H1
                        clear H1
                        simp only [Option.some.injEq, Prod.mk.injEq] at H
                        obtain ⟨rfl, rfl, rfl, rfl, rfl, rfl⟩ := H
                        try go_wp2_with (first | ((with_reducible refine gate_callee (f := 113) rfl ?_); refine goesL_ (some 62) rfl rfl Tryd.func113 (by kernel_rfl) rfl #[.string (a0.extract 1 a0.size)] rfl (by (try simp only [List.map_toArray, List.map_cons, List.map_nil]); first | done | rfl | (simp only [List.length_drop, List.length_take]; rfl)) ?_; (with_reducible refine (code_getString.calls (a0.extract 1 a0.size) t493 t494 false _ A54.out).mono ?_); rintro e w69 ⟨rfl, hb⟩; refine ⟨_, rfl, ?_⟩; have n0_ := Aside0.mk (blk_below (g := gb477) (o := .cells #[.int .i64 0, .int .i64 0, .float .f64 0, .string (⟨#[]⟩ : ByteArray)] 50 (0, 0)) (by (with_reducible repeat (first | refine blk_drewN ?_ _ | refine blk_drew ?_ | refine blk_alloc ?_ _)); exact BK477.out) hb); have n1_ := Aside0.mk (below_step (by repeat (first | (with_reducible first | exact HB.out | apply below_alloc | apply pw_below_drewN | apply below_drew1 | refine below_set ?_ GE477.out) | exact HB.out)) hb); clear BK477; clear HB; have BK477 := n0_; have HB := n1_; clear n0_ n1_; (try clear hb); (try clear hb2); (try clear hk); (try clear hi)) | ((with_reducible refine gate_dst (N := 12) rfl ?_); refine box_event ?hg (N := 12) ?hd (cs := #[.int .i64 0, .int .i64 0, .float .f64 0, .string (⟨#[]⟩ : ByteArray)]) (t := 50) ?hr ?_; (case hd => rfl); (case hg => rfl); (case hr => first | (go_simp; done) | (go_simp; rfl)); intro gb496 hg w70 hbox hb; have n0_ := Aside0.mk (blk_below (g := gb477) (o := .cells #[.int .i64 0, .int .i64 0, .float .f64 0, .string (⟨#[]⟩ : ByteArray)] 50 (0, 0)) (by (with_reducible repeat (first | refine blk_drewN ?_ _ | refine blk_drew ?_ | refine blk_alloc ?_ _)); exact BK477.out) hb); have n1_ := Aside0.mk (below_step (by repeat (first | (with_reducible first | exact HB.out | apply below_alloc | apply pw_below_drewN | apply below_drew1 | refine below_set ?_ GE477.out) | exact HB.out)) hb); have n2_ := Aside0.mk (hbox); have n3_ := Aside0.mk ((by rw [hg]; exact (below_size (by repeat (first | (with_reducible first | exact HB.out | apply below_alloc | apply pw_below_drewN | apply below_drew1 | refine below_set ?_ GE477.out) | exact HB.out))) : w.heap.size ≤ gb496)); have n4_ := Aside0.mk ((by rw [hg]; exact (below_size (by repeat (first | (with_reducible first | exact HB.out | apply below_alloc | apply pw_below_drewN | apply below_drew1 | refine below_set ?_ GE477.out) | exact HB.out))) : w.heap.size ≤ gb496)); have n5_ := Aside0.mk ((by rw [hg]; exact Nat.ne_of_lt (blk_lt (g := gb477) (o := .cells #[.int .i64 0, .int .i64 0, .float .f64 0, .string (⟨#[]⟩ : ByteArray)] 50 (0, 0)) (by (with_reducible repeat (first | refine blk_drewN ?_ _ | refine blk_drew ?_ | refine blk_alloc ?_ _)); exact BK477.out)) : gb477 ≠ gb496)); have n6_ := Aside0.mk ((by rw [hg]; exact Nat.ne_of_gt (blk_lt (g := gb477) (o := .cells #[.int .i64 0, .int .i64 0, .float .f64 0, .string (⟨#[]⟩ : ByteArray)] 50 (0, 0)) (by (with_reducible repeat (first | refine blk_drewN ?_ _ | refine blk_drew ?_ | refine blk_alloc ?_ _)); exact BK477.out)) : gb496 ≠ gb477)); clear BK477; clear HB; have BK477 := n0_; have HB := n1_; have BK496 := n2_; have GW496 := n3_; have GE496 := n4_; have NB477_496 := n5_; have NB496_477 := n6_; clear n0_ n1_ n2_ n3_ n4_ n5_ n6_; clear hb hbox hg; have hnb71 := NB496_477.out; have hnc71 := NB477_496.out; have hcz72_0 : w70.cell? ⟨gb496, 0, none⟩ = some (.int .i64 0) := (blk_cell BK496.out 0).trans rfl; have hcz72_1 : w70.cell? ⟨gb496, 1, none⟩ = some (.int .i64 0) := (blk_cell BK496.out 1).trans rfl; have hcz72_2 : w70.cell? ⟨gb496, 2, none⟩ = some (.float .f64 0) := (blk_cell BK496.out 2).trans rfl; have hcz72_3 : w70.cell? ⟨gb496, 3, none⟩ = some (.string (⟨#[]⟩ : ByteArray)) := (blk_cell BK496.out 3).trans rfl; have hfz72_0 := blk_frozen BK496.out 0; have hfz72_1 := blk_frozen BK496.out 1; have hfz72_2 := blk_frozen BK496.out 2; have hfz72_3 := blk_frozen BK496.out 3))
                        have n0_ : Aside0 ((((((w70.setCell ⟨gb496, 0, none⟩ (.int .i64 4)).setCell ⟨gb496, 1, none⟩ (.int .i64 0)).setCell ⟨gb496, 2, none⟩ (.float .f64 0)).setCell ⟨gb496, 3, none⟩ (.string t493)).setCell ⟨gb496, 0, none⟩ (.int .i64 5)).heap[gb477]? = some (.cells #[.int .i64 0, .int .i64 0, .float .f64 0, .string (⟨#[]⟩ : ByteArray)] 50 (0, 0))) := ⟨by (with_reducible repeat (first | refine blk_drewN ?_ _ | refine blk_drew ?_ | refine blk_alloc ?_ _)); refine blk_far ?_ NB477_496.out _; (with_reducible repeat (first | refine blk_drewN ?_ _ | refine blk_drew ?_ | refine blk_alloc ?_ _)); refine blk_far ?_ NB477_496.out _; (with_reducible repeat (first | refine blk_drewN ?_ _ | refine blk_drew ?_ | refine blk_alloc ?_ _)); refine blk_far ?_ NB477_496.out _; (with_reducible repeat (first | refine blk_drewN ?_ _ | refine blk_drew ?_ | refine blk_alloc ?_ _)); refine blk_far ?_ NB477_496.out _; (with_reducible repeat (first | refine blk_drewN ?_ _ | refine blk_drew ?_ | refine blk_alloc ?_ _)); refine blk_far ?_ NB477_496.out _; (with_reducible repeat (first | refine blk_drewN ?_ _ | refine blk_drew ?_ | refine blk_alloc ?_ _)); exact BK477.out⟩
                        have n1_ : Aside0 ((((((w70.setCell ⟨gb496, 0, none⟩ (.int .i64 4)).setCell ⟨gb496, 1, none⟩ (.int .i64 0)).setCell ⟨gb496, 2, none⟩ (.float .f64 0)).setCell ⟨gb496, 3, none⟩ (.string t493)).setCell ⟨gb496, 0, none⟩ (.int .i64 5)).heap[gb496]? = some (.cells #[.int .i64 5, .int .i64 0, .float .f64 0, .string t493] 50 (0, 0))) := ⟨by (with_reducible repeat (first | refine blk_drewN ?_ _ | refine blk_drew ?_ | refine blk_alloc ?_ _)); refine blk_put (cs := #[.int .i64 4, .int .i64 0, .float .f64 0, .string t493]) ?_ 0 _ rfl; (with_reducible repeat (first | refine blk_drewN ?_ _ | refine blk_drew ?_ | refine blk_alloc ?_ _)); refine blk_put (cs := #[.int .i64 4, .int .i64 0, .float .f64 0, .string (⟨#[]⟩ : ByteArray)]) ?_ 3 _ rfl; (with_reducible repeat (first | refine blk_drewN ?_ _ | refine blk_drew ?_ | refine blk_alloc ?_ _)); refine blk_put (cs := #[.int .i64 4, .int .i64 0, .float .f64 0, .string (⟨#[]⟩ : ByteArray)]) ?_ 2 _ rfl; (with_reducible repeat (first | refine blk_drewN ?_ _ | refine blk_drew ?_ | refine blk_alloc ?_ _)); refine blk_put (cs := #[.int .i64 4, .int .i64 0, .float .f64 0, .string (⟨#[]⟩ : ByteArray)]) ?_ 1 _ rfl; (with_reducible repeat (first | refine blk_drewN ?_ _ | refine blk_drew ?_ | refine blk_alloc ?_ _)); refine blk_put (cs := #[.int .i64 0, .int .i64 0, .float .f64 0, .string (⟨#[]⟩ : ByteArray)]) ?_ 0 _ rfl; (with_reducible repeat (first | refine blk_drewN ?_ _ | refine blk_drew ?_ | refine blk_alloc ?_ _)); exact BK496.out⟩
                        have n2_ : Aside0 (Below w.heap.size w (((((w70.setCell ⟨gb496, 0, none⟩ (.int .i64 4)).setCell ⟨gb496, 1, none⟩ (.int .i64 0)).setCell ⟨gb496, 2, none⟩ (.float .f64 0)).setCell ⟨gb496, 3, none⟩ (.string t493)).setCell ⟨gb496, 0, none⟩ (.int .i64 5))) := ⟨by repeat (first | (with_reducible first | exact HB.out | apply below_alloc | apply pw_below_drewN | apply below_drew1 | refine below_set ?_ GE477.out | refine below_set ?_ GE496.out) | exact HB.out)⟩
                        (try clear BK477)
                        (try clear BK496)
                        (try clear HB)
                        generalize (((((w70.setCell ⟨gb496, 0, none⟩ (.int .i64 4)).setCell ⟨gb496, 1, none⟩ (.int .i64 0)).setCell ⟨gb496, 2, none⟩ (.float .f64 0)).setCell ⟨gb496, 3, none⟩ (.string t493)).setCell ⟨gb496, 0, none⟩ (.int .i64 5)) = w73 at n0_ n1_ n2_ ⊢
                        have BK477 := n0_
                        have BK496 := n1_
                        have HB := n2_
                        clear n0_ n1_ n2_
                        have n0_ := Aside0.mk (blk_drew BK477.out)
                        have n1_ := Aside0.mk (blk_drew BK496.out)
                        have n2_ := Aside0.mk (below_drew1 HB.out)
                        clear BK477
                        clear BK496
                        clear HB
                        have BK477 := n0_
                        have BK496 := n1_
                        have HB := n2_
                        clear n0_ n1_ n2_
                        refine start_ (n := 11) (S := fun w' => w'.cell? ⟨gb496, 0, none⟩ = some (.int .i64 5) ∧ w'.cell? ⟨gb496, 1, none⟩ = some (.int .i64 0) ∧ w'.cell? ⟨gb496, 2, none⟩ = some (.float .f64 0) ∧ w'.cell? ⟨gb496, 3, none⟩ = some (.string t493)) (ds := []) #[false, false, false, false, false, false, false, false, false, false, false] (by kernel_rfl) rfl rfl ⟨(blk_cell BK496.out 0).trans rfl, (blk_cell BK496.out 1).trans rfl, (blk_cell BK496.out 2).trans rfl, (blk_cell BK496.out 3).trans rfl⟩ (fun hHeld => ?_); refine with_tabW code_get.tab20 code_get.bits20 (fun HT_ HW_ => ?_)
                        generalize w73.drew = w74 at BK477 BK496 HB hHeld ⊢
                        refine pure_ (i := 1) (N := some 72) (v := ?_) (a' := ?_) #[false, true, false, false, false, false, false, false, false, false, false] rfl rfl (any_of HT_.out (by kernel_rfl)) (fun _ _ _ h => h) (Or.inl ⟨by rfl, ?_⟩) ?_ ?_
                        rotate_left
                        · intro w'
                          go_simp
                          with_reducible rfl
                        rotate_left
                        · simp only [Act.put, List.setIfInBounds_toArray, List.set_cons_zero, List.set_cons_succ, i64_w, i32_w]
                          rfl
                        refine pure_ (i := 2) (N := some 73) (v := ?_) (a' := ?_) #[false, true, true, false, false, false, false, false, false, false, false] rfl rfl (any_of HT_.out (by kernel_rfl)) (fun _ _ _ h => h) (Or.inl ⟨by rfl, ?_⟩) ?_ ?_
                        rotate_left
                        · intro w'
                          go_simp
                          with_reducible rfl
                        rotate_left
                        · simp only [Act.put, List.setIfInBounds_toArray, List.set_cons_zero, List.set_cons_succ, i64_w, i32_w]
                          rfl
                        refine pure_ (i := 3) (N := some 74) (v := ?_) (a' := ?_) #[false, true, true, true, false, false, false, false, false, false, false] rfl rfl (any_of HT_.out (by kernel_rfl)) (fun _ _ _ h => h) (Or.inl ⟨by rfl, ?_⟩) ?_ ?_
                        rotate_left
                        · intro w'
                          go_simp
                          with_reducible rfl
                        rotate_left
                        · simp only [Act.put, List.setIfInBounds_toArray, List.set_cons_zero, List.set_cons_succ, i64_w, i32_w]
                          rfl
                        refine pure_ (i := 4) (N := some 75) (v := undef) (a' := ?_) #[false, true, true, true, true, false, false, false, false, false, false] rfl rfl (any_of HT_.out (by kernel_rfl)) (fun _ _ _ h => h) (Or.inr ⟨by rfl, rfl⟩) ?_ ?_
                        rotate_left
                        · simp only [Act.put, List.setIfInBounds_toArray, List.set_cons_zero, List.set_cons_succ, i64_w, i32_w]
                          rfl
                        refine pure_ (i := 5) (N := some 76) (v := undef) (a' := ?_) #[false, true, true, true, true, true, false, false, false, false, false] rfl rfl (any_of HT_.out (by kernel_rfl)) (fun _ _ _ h => h) (Or.inr ⟨by rfl, rfl⟩) ?_ ?_
                        rotate_left
                        · simp only [Act.put, List.setIfInBounds_toArray, List.set_cons_zero, List.set_cons_succ, i64_w, i32_w]
                          rfl
                        refine pure_ (i := 6) (N := some 77) (v := undef) (a' := ?_) #[false, true, true, true, true, true, true, false, false, false, false] rfl rfl (any_of HT_.out (by kernel_rfl)) (fun _ _ _ h => h) (Or.inr ⟨by rfl, rfl⟩) ?_ ?_
                        rotate_left
                        · simp only [Act.put, List.setIfInBounds_toArray, List.set_cons_zero, List.set_cons_succ, i64_w, i32_w]
                          rfl
                        refine pure_ (i := 7) (N := some 78) (v := ?_) (a' := ?_) #[false, true, true, true, true, true, true, true, false, false, false] rfl rfl (any_of HT_.out (by kernel_rfl)) (fun _ _ _ h => h) (Or.inl ⟨by rfl, ?_⟩) ?_ ?_
                        rotate_left
                        · intro w'
                          go_simp
                          with_reducible rfl
                        rotate_left
                        · simp only [Act.put, List.setIfInBounds_toArray, List.set_cons_zero, List.set_cons_succ, i64_w, i32_w]
                          rfl
                        refine take_ (i := 0) (N := some 71) (v := ?_) (a' := ?_) #[true, true, true, true, true, true, true, true, false, false, false] rfl rfl (take_ofW HT_.out HW_.out (by kernel_rfl)) (fun _ _ _ h => h) (Or.inl ⟨by rfl, ?_⟩) hHeld ?_ ?_
                        rotate_left
                        · rintro w' ⟨s0, s1, s2, s3⟩
                          go_simp
                          with_reducible rfl
                        rotate_left
                        · simp only [Act.put, List.setIfInBounds_toArray, List.set_cons_zero, List.set_cons_succ, i64_w, i32_w]
                          rfl
                        refine one_ (i := 8) (N := none) #[true, true, true, true, true, true, true, true, true, false, false] rfl rfl (one_of HT_.out (by kernel_rfl)) (by decide) (fun K hK => ?_)
                        have hs75 : w74.cell? ⟨gb477, 0, none⟩ = some (.int .i64 0) := (blk_cell BK477.out 0).trans rfl
                        have hfs75 := blk_frozen BK477.out 0
                        have hns75_1 := NB496_477.out
                        have hms75_1 := NB477_496.out
                        have hs76 : w74.cell? ⟨gb477, 1, none⟩ = some (.int .i64 0) := (blk_cell BK477.out 1).trans rfl
                        have hfs76 := blk_frozen BK477.out 1
                        have hns76_1 := NB496_477.out
                        have hms76_1 := NB477_496.out
                        have hs77 : w74.cell? ⟨gb477, 2, none⟩ = some (.float .f64 0) := (blk_cell BK477.out 2).trans rfl
                        have hfs77 := blk_frozen BK477.out 2
                        have hns77_1 := NB496_477.out
                        have hms77_1 := NB477_496.out
                        have hs78 : w74.cell? ⟨gb477, 3, none⟩ = some (.string (⟨#[]⟩ : ByteArray)) := (blk_cell BK477.out 3).trans rfl
                        have hfs78 := blk_frozen BK477.out 3
                        have hns78_1 := NB496_477.out
                        have hms78_1 := NB477_496.out
                        refine skip_ (w1 := ?_) (by rfl) rfl ?_ ?_
                        rotate_left
                        · go_simp
                          rfl
                        refine hK.out _ _ ⟨((cell_far (p := ⟨gb477, _, none⟩) NB496_477.out _).trans (((cell_far (p := ⟨gb477, _, none⟩) NB496_477.out _).trans (((cell_far (p := ⟨gb477, _, none⟩) NB496_477.out _).trans (((cell_far (p := ⟨gb477, _, none⟩) NB496_477.out _).trans (hHeld.1)))))))), ((cell_far (p := ⟨gb477, _, none⟩) NB496_477.out _).trans (((cell_far (p := ⟨gb477, _, none⟩) NB496_477.out _).trans (((cell_far (p := ⟨gb477, _, none⟩) NB496_477.out _).trans (((cell_far (p := ⟨gb477, _, none⟩) NB496_477.out _).trans (hHeld.2.1)))))))), ((cell_far (p := ⟨gb477, _, none⟩) NB496_477.out _).trans (((cell_far (p := ⟨gb477, _, none⟩) NB496_477.out _).trans (((cell_far (p := ⟨gb477, _, none⟩) NB496_477.out _).trans (((cell_far (p := ⟨gb477, _, none⟩) NB496_477.out _).trans (hHeld.2.2.1)))))))), ((cell_far (p := ⟨gb477, _, none⟩) NB496_477.out _).trans (((cell_far (p := ⟨gb477, _, none⟩) NB496_477.out _).trans (((cell_far (p := ⟨gb477, _, none⟩) NB496_477.out _).trans (((cell_far (p := ⟨gb477, _, none⟩) NB496_477.out _).trans (hHeld.2.2.2))))))))⟩ (fun hHeld => ?_)
                        clear hK K
                        refine pure_ (i := 9) (N := some 3) (v := ?_) (a' := ?_) #[true, true, true, true, true, true, true, true, true, true, false] rfl rfl (any_of HT_.out (by kernel_rfl)) (fun _ _ _ h => h) (Or.inl ⟨by rfl, ?_⟩) ?_ ?_
                        rotate_left
                        · intro w'
                          go_simp
                          with_reducible rfl
                        rotate_left
                        · simp only [Act.put, List.setIfInBounds_toArray, List.set_cons_zero, List.set_cons_succ, i64_w, i32_w]
                          rfl
                        refine pure_ (i := 10) (N := some 4) (v := ?_) (a' := ?_) #[true, true, true, true, true, true, true, true, true, true, true] rfl rfl (any_of HT_.out (by kernel_rfl)) (fun _ _ _ h => h) (Or.inl ⟨by rfl, ?_⟩) ?_ ?_
                        rotate_left
                        · intro w'
                          go_simp
                          with_reducible rfl
                        rotate_left
                        · simp only [Act.put, List.setIfInBounds_toArray, List.set_cons_zero, List.set_cons_succ, i64_w, i32_w]
                          rfl
                        refine done_ (done_of HT_.out (by kernel_rfl)) ?_
                        try go_wp2
                        refine bodyPost_ret (results_ctt rfl _ _ gb477 50 #[.int .i64 5, .int .i64 0, .float .f64 0, .string t493] (0, 0) _ rfl (by (with_reducible repeat (first | refine blk_drewN ?_ _ | refine blk_drew ?_ | refine blk_alloc ?_ _)); refine blk_put (cs := #[.int .i64 5, .int .i64 0, .float .f64 0, .string (⟨#[]⟩ : ByteArray)]) ?_ 3 _ rfl; (with_reducible repeat (first | refine blk_drewN ?_ _ | refine blk_drew ?_ | refine blk_alloc ?_ _)); refine blk_put (cs := #[.int .i64 5, .int .i64 0, .float .f64 0, .string (⟨#[]⟩ : ByteArray)]) ?_ 2 _ rfl; (with_reducible repeat (first | refine blk_drewN ?_ _ | refine blk_drew ?_ | refine blk_alloc ?_ _)); refine blk_put (cs := #[.int .i64 5, .int .i64 0, .float .f64 0, .string (⟨#[]⟩ : ByteArray)]) ?_ 1 _ rfl; (with_reducible repeat (first | refine blk_drewN ?_ _ | refine blk_drew ?_ | refine blk_alloc ?_ _)); refine blk_put (cs := #[.int .i64 0, .int .i64 0, .float .f64 0, .string (⟨#[]⟩ : ByteArray)]) ?_ 0 _ rfl; (with_reducible repeat (first | refine blk_drewN ?_ _ | refine blk_drew ?_ | refine blk_alloc ?_ _)); exact BK477.out) Tryd.underlying50 rfl (by kernel_rfl)) rfl ?_
                        exact ⟨by first | rfl | (simp [errW_none, errW_some] <;> rfl) | (simp [*, errW_none, errW_some] <;> rfl), by repeat (first | (with_reducible first | exact HB.out | apply below_alloc | apply pw_below_drewN | apply below_drew1 | refine below_set ?_ GE477.out | refine below_set ?_ GE496.out) | exact HB.out)⟩
                    · rw [if_neg c55] at H
                      have c55b0 : ((bt a0 0) == 6) = false := beq_eq_false_iff_ne.mpr c55
                      have c55b1 : ((bt a0 0) != 6) = true := bne_iff_ne.mpr c55
                      by_cases c79 : t495 = true
                      · subst c79
                        have H1 : ((value_Check.f kj48 4 0 0 t493).bind fun t498 => (some (4, 0, 0, t493, t494, (t498 == 0)))) = some (r1, r2, r3, r4, r5, r6) := by rw [if_pos rfl] at H; exact H
                        clear H
                        have H := H1
                        clear H1
                        replace H := Option.bind_eq_some_iff.mp H
                        obtain ⟨t498, A800, H⟩ := H
                        replace H : (some (4, 0, 0, t493, t494, (t498 == 0))) = some (r1, r2, r3, r4, r5, r6) := H
                        have A80 := Aside0.mk A800
                        clear A800
                        simp only [Option.some.injEq, Prod.mk.injEq] at H
                        obtain ⟨rfl, rfl, rfl, rfl, rfl, rfl⟩ := H
                        try go_wp2_with (first | ((with_reducible refine gate_callee (f := 113) rfl ?_); refine goesL_ (some 62) rfl rfl Tryd.func113 (by kernel_rfl) rfl #[.string (a0.extract 1 a0.size)] rfl (by (try simp only [List.map_toArray, List.map_cons, List.map_nil]); first | done | rfl | (simp only [List.length_drop, List.length_take]; rfl)) ?_; (with_reducible refine (code_getString.calls (a0.extract 1 a0.size) t493 t494 true _ A54.out).mono ?_); rintro e w81 ⟨rfl, hb⟩; refine ⟨_, rfl, ?_⟩; have n0_ := Aside0.mk (blk_below (g := gb477) (o := .cells #[.int .i64 0, .int .i64 0, .float .f64 0, .string (⟨#[]⟩ : ByteArray)] 50 (0, 0)) (by (with_reducible repeat (first | refine blk_drewN ?_ _ | refine blk_drew ?_ | refine blk_alloc ?_ _)); exact BK477.out) hb); have n1_ := Aside0.mk (below_step (by repeat (first | (with_reducible first | exact HB.out | apply below_alloc | apply pw_below_drewN | apply below_drew1 | refine below_set ?_ GE477.out) | exact HB.out)) hb); clear BK477; clear HB; have BK477 := n0_; have HB := n1_; clear n0_ n1_; (try clear hb); (try clear hb2); (try clear hk); (try clear hi)) | ((with_reducible refine gate_dst (N := 12) rfl ?_); refine box_event ?hg (N := 12) ?hd (cs := #[.int .i64 0, .int .i64 0, .float .f64 0, .string (⟨#[]⟩ : ByteArray)]) (t := 50) ?hr ?_; (case hd => rfl); (case hg => rfl); (case hr => first | (go_simp; done) | (go_simp; rfl)); intro gb496 hg w82 hbox hb; have n0_ := Aside0.mk (blk_below (g := gb477) (o := .cells #[.int .i64 0, .int .i64 0, .float .f64 0, .string (⟨#[]⟩ : ByteArray)] 50 (0, 0)) (by (with_reducible repeat (first | refine blk_drewN ?_ _ | refine blk_drew ?_ | refine blk_alloc ?_ _)); exact BK477.out) hb); have n1_ := Aside0.mk (below_step (by repeat (first | (with_reducible first | exact HB.out | apply below_alloc | apply pw_below_drewN | apply below_drew1 | refine below_set ?_ GE477.out) | exact HB.out)) hb); have n2_ := Aside0.mk (hbox); have n3_ := Aside0.mk ((by rw [hg]; exact (below_size (by repeat (first | (with_reducible first | exact HB.out | apply below_alloc | apply pw_below_drewN | apply below_drew1 | refine below_set ?_ GE477.out) | exact HB.out))) : w.heap.size ≤ gb496)); have n4_ := Aside0.mk ((by rw [hg]; exact (below_size (by repeat (first | (with_reducible first | exact HB.out | apply below_alloc | apply pw_below_drewN | apply below_drew1 | refine below_set ?_ GE477.out) | exact HB.out))) : w.heap.size ≤ gb496)); have n5_ := Aside0.mk ((by rw [hg]; exact Nat.ne_of_lt (blk_lt (g := gb477) (o := .cells #[.int .i64 0, .int .i64 0, .float .f64 0, .string (⟨#[]⟩ : ByteArray)] 50 (0, 0)) (by (with_reducible repeat (first | refine blk_drewN ?_ _ | refine blk_drew ?_ | refine blk_alloc ?_ _)); exact BK477.out)) : gb477 ≠ gb496)); have n6_ := Aside0.mk ((by rw [hg]; exact Nat.ne_of_gt (blk_lt (g := gb477) (o := .cells #[.int .i64 0, .int .i64 0, .float .f64 0, .string (⟨#[]⟩ : ByteArray)] 50 (0, 0)) (by (with_reducible repeat (first | refine blk_drewN ?_ _ | refine blk_drew ?_ | refine blk_alloc ?_ _)); exact BK477.out)) : gb496 ≠ gb477)); clear BK477; clear HB; have BK477 := n0_; have HB := n1_; have BK496 := n2_; have GW496 := n3_; have GE496 := n4_; have NB477_496 := n5_; have NB496_477 := n6_; clear n0_ n1_ n2_ n3_ n4_ n5_ n6_; clear hb hbox hg; have hnb83 := NB496_477.out; have hnc83 := NB477_496.out; have hcz84_0 : w82.cell? ⟨gb496, 0, none⟩ = some (.int .i64 0) := (blk_cell BK496.out 0).trans rfl; have hcz84_1 : w82.cell? ⟨gb496, 1, none⟩ = some (.int .i64 0) := (blk_cell BK496.out 1).trans rfl; have hcz84_2 : w82.cell? ⟨gb496, 2, none⟩ = some (.float .f64 0) := (blk_cell BK496.out 2).trans rfl; have hcz84_3 : w82.cell? ⟨gb496, 3, none⟩ = some (.string (⟨#[]⟩ : ByteArray)) := (blk_cell BK496.out 3).trans rfl; have hfz84_0 := blk_frozen BK496.out 0; have hfz84_1 := blk_frozen BK496.out 1; have hfz84_2 := blk_frozen BK496.out 2; have hfz84_3 := blk_frozen BK496.out 3))
                        have n0_ : Aside0 (((((w82.setCell ⟨gb496, 0, none⟩ (.int .i64 4)).setCell ⟨gb496, 1, none⟩ (.int .i64 0)).setCell ⟨gb496, 2, none⟩ (.float .f64 0)).setCell ⟨gb496, 3, none⟩ (.string t493)).heap[gb477]? = some (.cells #[.int .i64 0, .int .i64 0, .float .f64 0, .string (⟨#[]⟩ : ByteArray)] 50 (0, 0))) := ⟨by (with_reducible repeat (first | refine blk_drewN ?_ _ | refine blk_drew ?_ | refine blk_alloc ?_ _)); refine blk_far ?_ NB477_496.out _; (with_reducible repeat (first | refine blk_drewN ?_ _ | refine blk_drew ?_ | refine blk_alloc ?_ _)); refine blk_far ?_ NB477_496.out _; (with_reducible repeat (first | refine blk_drewN ?_ _ | refine blk_drew ?_ | refine blk_alloc ?_ _)); refine blk_far ?_ NB477_496.out _; (with_reducible repeat (first | refine blk_drewN ?_ _ | refine blk_drew ?_ | refine blk_alloc ?_ _)); refine blk_far ?_ NB477_496.out _; (with_reducible repeat (first | refine blk_drewN ?_ _ | refine blk_drew ?_ | refine blk_alloc ?_ _)); exact BK477.out⟩
                        have n1_ : Aside0 (((((w82.setCell ⟨gb496, 0, none⟩ (.int .i64 4)).setCell ⟨gb496, 1, none⟩ (.int .i64 0)).setCell ⟨gb496, 2, none⟩ (.float .f64 0)).setCell ⟨gb496, 3, none⟩ (.string t493)).heap[gb496]? = some (.cells #[.int .i64 4, .int .i64 0, .float .f64 0, .string t493] 50 (0, 0))) := ⟨by (with_reducible repeat (first | refine blk_drewN ?_ _ | refine blk_drew ?_ | refine blk_alloc ?_ _)); refine blk_put (cs := #[.int .i64 4, .int .i64 0, .float .f64 0, .string (⟨#[]⟩ : ByteArray)]) ?_ 3 _ rfl; (with_reducible repeat (first | refine blk_drewN ?_ _ | refine blk_drew ?_ | refine blk_alloc ?_ _)); refine blk_put (cs := #[.int .i64 4, .int .i64 0, .float .f64 0, .string (⟨#[]⟩ : ByteArray)]) ?_ 2 _ rfl; (with_reducible repeat (first | refine blk_drewN ?_ _ | refine blk_drew ?_ | refine blk_alloc ?_ _)); refine blk_put (cs := #[.int .i64 4, .int .i64 0, .float .f64 0, .string (⟨#[]⟩ : ByteArray)]) ?_ 1 _ rfl; (with_reducible repeat (first | refine blk_drewN ?_ _ | refine blk_drew ?_ | refine blk_alloc ?_ _)); refine blk_put (cs := #[.int .i64 0, .int .i64 0, .float .f64 0, .string (⟨#[]⟩ : ByteArray)]) ?_ 0 _ rfl; (with_reducible repeat (first | refine blk_drewN ?_ _ | refine blk_drew ?_ | refine blk_alloc ?_ _)); exact BK496.out⟩
                        have n2_ : Aside0 (Below w.heap.size w ((((w82.setCell ⟨gb496, 0, none⟩ (.int .i64 4)).setCell ⟨gb496, 1, none⟩ (.int .i64 0)).setCell ⟨gb496, 2, none⟩ (.float .f64 0)).setCell ⟨gb496, 3, none⟩ (.string t493))) := ⟨by repeat (first | (with_reducible first | exact HB.out | apply below_alloc | apply pw_below_drewN | apply below_drew1 | refine below_set ?_ GE477.out | refine below_set ?_ GE496.out) | exact HB.out)⟩
                        (try clear BK477)
                        (try clear BK496)
                        (try clear HB)
                        generalize ((((w82.setCell ⟨gb496, 0, none⟩ (.int .i64 4)).setCell ⟨gb496, 1, none⟩ (.int .i64 0)).setCell ⟨gb496, 2, none⟩ (.float .f64 0)).setCell ⟨gb496, 3, none⟩ (.string t493)) = w85 at n0_ n1_ n2_ ⊢
                        have BK477 := n0_
                        have BK496 := n1_
                        have HB := n2_
                        clear n0_ n1_ n2_
                        have n0_ := Aside0.mk (blk_drew BK477.out)
                        have n1_ := Aside0.mk (blk_drew BK496.out)
                        have n2_ := Aside0.mk (below_drew1 HB.out)
                        clear BK477
                        clear BK496
                        clear HB
                        have BK477 := n0_
                        have BK496 := n1_
                        have HB := n2_
                        clear n0_ n1_ n2_
                        refine start_ (n := 11) (S := fun w' => w'.cell? ⟨gb496, 0, none⟩ = some (.int .i64 4) ∧ w'.cell? ⟨gb496, 1, none⟩ = some (.int .i64 0) ∧ w'.cell? ⟨gb496, 2, none⟩ = some (.float .f64 0) ∧ w'.cell? ⟨gb496, 3, none⟩ = some (.string t493)) (ds := []) #[false, false, false, false, false, false, false, false, false, false, false] (by kernel_rfl) rfl rfl ⟨(blk_cell BK496.out 0).trans rfl, (blk_cell BK496.out 1).trans rfl, (blk_cell BK496.out 2).trans rfl, (blk_cell BK496.out 3).trans rfl⟩ (fun hHeld => ?_); refine with_tabW code_get.tab20 code_get.bits20 (fun HT_ HW_ => ?_)
                        generalize w85.drew = w86 at BK477 BK496 HB hHeld ⊢
                        refine pure_ (i := 1) (N := some 72) (v := ?_) (a' := ?_) #[false, true, false, false, false, false, false, false, false, false, false] rfl rfl (any_of HT_.out (by kernel_rfl)) (fun _ _ _ h => h) (Or.inl ⟨by rfl, ?_⟩) ?_ ?_
                        rotate_left
                        · intro w'
                          go_simp
                          with_reducible rfl
                        rotate_left
                        · simp only [Act.put, List.setIfInBounds_toArray, List.set_cons_zero, List.set_cons_succ, i64_w, i32_w]
                          rfl
                        refine pure_ (i := 2) (N := some 73) (v := ?_) (a' := ?_) #[false, true, true, false, false, false, false, false, false, false, false] rfl rfl (any_of HT_.out (by kernel_rfl)) (fun _ _ _ h => h) (Or.inl ⟨by rfl, ?_⟩) ?_ ?_
                        rotate_left
                        · intro w'
                          go_simp
                          with_reducible rfl
                        rotate_left
                        · simp only [Act.put, List.setIfInBounds_toArray, List.set_cons_zero, List.set_cons_succ, i64_w, i32_w]
                          rfl
                        refine pure_ (i := 3) (N := some 74) (v := ?_) (a' := ?_) #[false, true, true, true, false, false, false, false, false, false, false] rfl rfl (any_of HT_.out (by kernel_rfl)) (fun _ _ _ h => h) (Or.inl ⟨by rfl, ?_⟩) ?_ ?_
                        rotate_left
                        · intro w'
                          go_simp
                          with_reducible rfl
                        rotate_left
                        · simp only [Act.put, List.setIfInBounds_toArray, List.set_cons_zero, List.set_cons_succ, i64_w, i32_w]
                          rfl
                        refine take_ (i := 0) (N := some 71) (v := ?_) (a' := ?_) #[true, true, true, true, false, false, false, false, false, false, false] rfl rfl (take_ofW HT_.out HW_.out (by kernel_rfl)) (fun _ _ _ h => h) (Or.inl ⟨by rfl, ?_⟩) hHeld ?_ ?_
                        rotate_left
                        · rintro w' ⟨s0, s1, s2, s3⟩
                          go_simp
                          with_reducible rfl
                        rotate_left
                        · simp only [Act.put, List.setIfInBounds_toArray, List.set_cons_zero, List.set_cons_succ, i64_w, i32_w]
                          rfl
                        refine take_ (i := 4) (N := some 75) (v := ?_) (a' := ?_) #[true, true, true, true, true, false, false, false, false, false, false] rfl rfl (take_ofW HT_.out HW_.out (by kernel_rfl)) (fun _ _ _ h => h) (Or.inl ⟨by rfl, ?_⟩) hHeld ?_ ?_
                        rotate_left
                        · rintro w' ⟨s0, s1, s2, s3⟩
                          go_simp
                          with_reducible rfl
                        rotate_left
                        · simp only [Act.put, List.setIfInBounds_toArray, List.set_cons_zero, List.set_cons_succ, i64_w, i32_w]
                          rfl
                        refine one_ (i := 5) (N := some 76) #[true, true, true, true, true, true, false, false, false, false, false] rfl rfl (one_of HT_.out (by kernel_rfl)) (by decide) (fun K hK => ?_)
                        refine goes_ Tryd.func67 (by kernel_rfl) rfl #[.agg #[.int .i64 4, .int .i64 0, .float .f64 0, .string t493]] (by rfl) rfl rfl (by (try simp only [List.map_toArray, List.map_cons, List.map_nil]); first | done | rfl | (simp only [List.length_drop, List.length_take]; rfl)) ?_
                        with_reducible refine (value_Check.calls kj48 4 0 0 t493 t498 _ ?side1 A80.out).mono ?_
                        (case side1 => exact Glob.below HG.out (by repeat (first | (with_reducible first | exact HB.out | apply below_alloc | apply pw_below_drewN | apply below_drew1 | refine below_set ?_ GE477.out | refine below_set ?_ GE496.out) | exact HB.out)))
                        rintro e w87 ⟨rfl, hb⟩
                        refine ⟨_, rfl, ?_⟩
                        have n0_ := Aside0.mk (blk_below (g := gb477) (o := .cells #[.int .i64 0, .int .i64 0, .float .f64 0, .string (⟨#[]⟩ : ByteArray)] 50 (0, 0)) (by (with_reducible repeat (first | refine blk_drewN ?_ _ | refine blk_drew ?_ | refine blk_alloc ?_ _)); exact BK477.out) hb)
                        have n1_ := Aside0.mk (blk_below (g := gb496) (o := .cells #[.int .i64 4, .int .i64 0, .float .f64 0, .string t493] 50 (0, 0)) (by (with_reducible repeat (first | refine blk_drewN ?_ _ | refine blk_drew ?_ | refine blk_alloc ?_ _)); exact BK496.out) hb)
                        have n2_ := Aside0.mk (below_step (by repeat (first | (with_reducible first | exact HB.out | apply below_alloc | apply pw_below_drewN | apply below_drew1 | refine below_set ?_ GE477.out | refine below_set ?_ GE496.out) | exact HB.out)) hb)
                        clear BK477
                        clear BK496
                        clear HB
                        have BK477 := n0_
                        have BK496 := n1_
                        have HB := n2_
                        clear n0_ n1_ n2_
                        (try clear hb)
                        (try clear hb2)
                        (try clear hk)
                        (try clear hi)
                        refine hK.out _ _ ⟨(blk_cell BK496.out 0).trans rfl, (blk_cell BK496.out 1).trans rfl, (blk_cell BK496.out 2).trans rfl, (blk_cell BK496.out 3).trans rfl⟩ (fun hHeld => ?_)
                        clear hK K
                        refine norm_ (a' := ?_) ?_ ?_
                        rotate_left
                        · show Act.put _ (some 76) _ = _
                          simp only [Act.put, List.setIfInBounds_toArray, List.set_cons_zero, List.set_cons_succ, i64_w, i32_w]
                          rfl
                        refine pure_ (i := 6) (N := some 77) (v := ?_) (a' := ?_) #[true, true, true, true, true, true, true, false, false, false, false] rfl rfl (any_of HT_.out (by kernel_rfl)) (fun _ _ _ h => h) (Or.inl ⟨by rfl, ?_⟩) ?_ ?_
                        rotate_left
                        · intro w'
                          go_simp
                          with_reducible rfl
                        rotate_left
                        · simp only [Act.put, List.setIfInBounds_toArray, List.set_cons_zero, List.set_cons_succ, i64_w, i32_w]
                          rfl
                        refine pure_ (i := 7) (N := some 78) (v := ?_) (a' := ?_) #[true, true, true, true, true, true, true, true, false, false, false] rfl rfl (any_of HT_.out (by kernel_rfl)) (fun _ _ _ h => h) (Or.inl ⟨by rfl, ?_⟩) ?_ ?_
                        rotate_left
                        · intro w'
                          go_simp
                          with_reducible rfl
                        rotate_left
                        · simp only [Act.put, List.setIfInBounds_toArray, List.set_cons_zero, List.set_cons_succ, i64_w, i32_w]
                          rfl
                        refine one_ (i := 8) (N := none) #[true, true, true, true, true, true, true, true, true, false, false] rfl rfl (one_of HT_.out (by kernel_rfl)) (by decide) (fun K hK => ?_)
                        have hs88 : w87.cell? ⟨gb477, 0, none⟩ = some (.int .i64 0) := (blk_cell BK477.out 0).trans rfl
                        have hfs88 := blk_frozen BK477.out 0
                        have hns88_1 := NB496_477.out
                        have hms88_1 := NB477_496.out
                        have hs89 : w87.cell? ⟨gb477, 1, none⟩ = some (.int .i64 0) := (blk_cell BK477.out 1).trans rfl
                        have hfs89 := blk_frozen BK477.out 1
                        have hns89_1 := NB496_477.out
                        have hms89_1 := NB477_496.out
                        have hs90 : w87.cell? ⟨gb477, 2, none⟩ = some (.float .f64 0) := (blk_cell BK477.out 2).trans rfl
                        have hfs90 := blk_frozen BK477.out 2
                        have hns90_1 := NB496_477.out
                        have hms90_1 := NB477_496.out
                        have hs91 : w87.cell? ⟨gb477, 3, none⟩ = some (.string (⟨#[]⟩ : ByteArray)) := (blk_cell BK477.out 3).trans rfl
                        have hfs91 := blk_frozen BK477.out 3
                        have hns91_1 := NB496_477.out
                        have hms91_1 := NB477_496.out
                        refine skip_ (w1 := ?_) (by rfl) rfl ?_ ?_
                        rotate_left
                        · go_simp
                          rfl
                        refine hK.out _ _ ⟨((cell_far (p := ⟨gb477, _, none⟩) NB496_477.out _).trans (((cell_far (p := ⟨gb477, _, none⟩) NB496_477.out _).trans (((cell_far (p := ⟨gb477, _, none⟩) NB496_477.out _).trans (((cell_far (p := ⟨gb477, _, none⟩) NB496_477.out _).trans (hHeld.1)))))))), ((cell_far (p := ⟨gb477, _, none⟩) NB496_477.out _).trans (((cell_far (p := ⟨gb477, _, none⟩) NB496_477.out _).trans (((cell_far (p := ⟨gb477, _, none⟩) NB496_477.out _).trans (((cell_far (p := ⟨gb477, _, none⟩) NB496_477.out _).trans (hHeld.2.1)))))))), ((cell_far (p := ⟨gb477, _, none⟩) NB496_477.out _).trans (((cell_far (p := ⟨gb477, _, none⟩) NB496_477.out _).trans (((cell_far (p := ⟨gb477, _, none⟩) NB496_477.out _).trans (((cell_far (p := ⟨gb477, _, none⟩) NB496_477.out _).trans (hHeld.2.2.1)))))))), ((cell_far (p := ⟨gb477, _, none⟩) NB496_477.out _).trans (((cell_far (p := ⟨gb477, _, none⟩) NB496_477.out _).trans (((cell_far (p := ⟨gb477, _, none⟩) NB496_477.out _).trans (((cell_far (p := ⟨gb477, _, none⟩) NB496_477.out _).trans (hHeld.2.2.2))))))))⟩ (fun hHeld => ?_)
                        clear hK K
                        refine pure_ (i := 9) (N := some 3) (v := ?_) (a' := ?_) #[true, true, true, true, true, true, true, true, true, true, false] rfl rfl (any_of HT_.out (by kernel_rfl)) (fun _ _ _ h => h) (Or.inl ⟨by rfl, ?_⟩) ?_ ?_
                        rotate_left
                        · intro w'
                          go_simp
                          with_reducible rfl
                        rotate_left
                        · simp only [Act.put, List.setIfInBounds_toArray, List.set_cons_zero, List.set_cons_succ, i64_w, i32_w]
                          rfl
                        refine pure_ (i := 10) (N := some 4) (v := ?_) (a' := ?_) #[true, true, true, true, true, true, true, true, true, true, true] rfl rfl (any_of HT_.out (by kernel_rfl)) (fun _ _ _ h => h) (Or.inl ⟨by rfl, ?_⟩) ?_ ?_
                        rotate_left
                        · intro w'
                          go_simp
                          with_reducible rfl
                        rotate_left
                        · simp only [Act.put, List.setIfInBounds_toArray, List.set_cons_zero, List.set_cons_succ, i64_w, i32_w]
                          rfl
                        refine done_ (done_of HT_.out (by kernel_rfl)) ?_
                        try go_wp2
                        refine bodyPost_ret (results_ctt rfl _ _ gb477 50 #[.int .i64 4, .int .i64 0, .float .f64 0, .string t493] (0, 0) _ rfl (by (with_reducible repeat (first | refine blk_drewN ?_ _ | refine blk_drew ?_ | refine blk_alloc ?_ _)); refine blk_put (cs := #[.int .i64 4, .int .i64 0, .float .f64 0, .string (⟨#[]⟩ : ByteArray)]) ?_ 3 _ rfl; (with_reducible repeat (first | refine blk_drewN ?_ _ | refine blk_drew ?_ | refine blk_alloc ?_ _)); refine blk_put (cs := #[.int .i64 4, .int .i64 0, .float .f64 0, .string (⟨#[]⟩ : ByteArray)]) ?_ 2 _ rfl; (with_reducible repeat (first | refine blk_drewN ?_ _ | refine blk_drew ?_ | refine blk_alloc ?_ _)); refine blk_put (cs := #[.int .i64 4, .int .i64 0, .float .f64 0, .string (⟨#[]⟩ : ByteArray)]) ?_ 1 _ rfl; (with_reducible repeat (first | refine blk_drewN ?_ _ | refine blk_drew ?_ | refine blk_alloc ?_ _)); refine blk_put (cs := #[.int .i64 0, .int .i64 0, .float .f64 0, .string (⟨#[]⟩ : ByteArray)]) ?_ 0 _ rfl; (with_reducible repeat (first | refine blk_drewN ?_ _ | refine blk_drew ?_ | refine blk_alloc ?_ _)); exact BK477.out) Tryd.underlying50 rfl (by kernel_rfl)) rfl ?_
                        exact ⟨by first | rfl | (simp [errW_none, errW_some] <;> rfl) | (simp [*, errW_none, errW_some] <;> rfl), by repeat (first | (with_reducible first | exact HB.out | apply below_alloc | apply pw_below_drewN | apply below_drew1 | refine below_set ?_ GE477.out | refine below_set ?_ GE496.out) | exact HB.out)⟩
                      · replace c79 := Bool.eq_false_iff.mpr c79
                        subst c79
                        have H1 : (some (4, 0, 0, t493, t494, false)) = some (r1, r2, r3, r4, r5, r6) := by rw [if_neg (show ¬ (false = true) by decide)] at H; exact H
                        clear H
                        have H := H1
                        clear H1
                        simp only [Option.some.injEq, Prod.mk.injEq] at H
                        obtain ⟨rfl, rfl, rfl, rfl, rfl, rfl⟩ := H
                        try go_wp2_with (first | ((with_reducible refine gate_callee (f := 113) rfl ?_); refine goesL_ (some 62) rfl rfl Tryd.func113 (by kernel_rfl) rfl #[.string (a0.extract 1 a0.size)] rfl (by (try simp only [List.map_toArray, List.map_cons, List.map_nil]); first | done | rfl | (simp only [List.length_drop, List.length_take]; rfl)) ?_; (with_reducible refine (code_getString.calls (a0.extract 1 a0.size) t493 t494 false _ A54.out).mono ?_); rintro e w92 ⟨rfl, hb⟩; refine ⟨_, rfl, ?_⟩; have n0_ := Aside0.mk (blk_below (g := gb477) (o := .cells #[.int .i64 0, .int .i64 0, .float .f64 0, .string (⟨#[]⟩ : ByteArray)] 50 (0, 0)) (by (with_reducible repeat (first | refine blk_drewN ?_ _ | refine blk_drew ?_ | refine blk_alloc ?_ _)); exact BK477.out) hb); have n1_ := Aside0.mk (below_step (by repeat (first | (with_reducible first | exact HB.out | apply below_alloc | apply pw_below_drewN | apply below_drew1 | refine below_set ?_ GE477.out) | exact HB.out)) hb); clear BK477; clear HB; have BK477 := n0_; have HB := n1_; clear n0_ n1_; (try clear hb); (try clear hb2); (try clear hk); (try clear hi)) | ((with_reducible refine gate_dst (N := 12) rfl ?_); refine box_event ?hg (N := 12) ?hd (cs := #[.int .i64 0, .int .i64 0, .float .f64 0, .string (⟨#[]⟩ : ByteArray)]) (t := 50) ?hr ?_; (case hd => rfl); (case hg => rfl); (case hr => first | (go_simp; done) | (go_simp; rfl)); intro gb496 hg w93 hbox hb; have n0_ := Aside0.mk (blk_below (g := gb477) (o := .cells #[.int .i64 0, .int .i64 0, .float .f64 0, .string (⟨#[]⟩ : ByteArray)] 50 (0, 0)) (by (with_reducible repeat (first | refine blk_drewN ?_ _ | refine blk_drew ?_ | refine blk_alloc ?_ _)); exact BK477.out) hb); have n1_ := Aside0.mk (below_step (by repeat (first | (with_reducible first | exact HB.out | apply below_alloc | apply pw_below_drewN | apply below_drew1 | refine below_set ?_ GE477.out) | exact HB.out)) hb); have n2_ := Aside0.mk (hbox); have n3_ := Aside0.mk ((by rw [hg]; exact (below_size (by repeat (first | (with_reducible first | exact HB.out | apply below_alloc | apply pw_below_drewN | apply below_drew1 | refine below_set ?_ GE477.out) | exact HB.out))) : w.heap.size ≤ gb496)); have n4_ := Aside0.mk ((by rw [hg]; exact (below_size (by repeat (first | (with_reducible first | exact HB.out | apply below_alloc | apply pw_below_drewN | apply below_drew1 | refine below_set ?_ GE477.out) | exact HB.out))) : w.heap.size ≤ gb496)); have n5_ := Aside0.mk ((by rw [hg]; exact Nat.ne_of_lt (blk_lt (g := gb477) (o := .cells #[.int .i64 0, .int .i64 0, .float .f64 0, .string (⟨#[]⟩ : ByteArray)] 50 (0, 0)) (by (with_reducible repeat (first | refine blk_drewN ?_ _ | refine blk_drew ?_ | refine blk_alloc ?_ _)); exact BK477.out)) : gb477 ≠ gb496)); have n6_ := Aside0.mk ((by rw [hg]; exact Nat.ne_of_gt (blk_lt (g := gb477) (o := .cells #[.int .i64 0, .int .i64 0, .float .f64 0, .string (⟨#[]⟩ : ByteArray)] 50 (0, 0)) (by (with_reducible repeat (first | refine blk_drewN ?_ _ | refine blk_drew ?_ | refine blk_alloc ?_ _)); exact BK477.out)) : gb496 ≠ gb477)); clear BK477; clear HB; have BK477 := n0_; have HB := n1_; have BK496 := n2_; have GW496 := n3_; have GE496 := n4_; have NB477_496 := n5_; have NB496_477 := n6_; clear n0_ n1_ n2_ n3_ n4_ n5_ n6_; clear hb hbox hg; have hnb94 := NB496_477.out; have hnc94 := NB477_496.out; have hcz95_0 : w93.cell? ⟨gb496, 0, none⟩ = some (.int .i64 0) := (blk_cell BK496.out 0).trans rfl; have hcz95_1 : w93.cell? ⟨gb496, 1, none⟩ = some (.int .i64 0) := (blk_cell BK496.out 1).trans rfl; have hcz95_2 : w93.cell? ⟨gb496, 2, none⟩ = some (.float .f64 0) := (blk_cell BK496.out 2).trans rfl; have hcz95_3 : w93.cell? ⟨gb496, 3, none⟩ = some (.string (⟨#[]⟩ : ByteArray)) := (blk_cell BK496.out 3).trans rfl; have hfz95_0 := blk_frozen BK496.out 0; have hfz95_1 := blk_frozen BK496.out 1; have hfz95_2 := blk_frozen BK496.out 2; have hfz95_3 := blk_frozen BK496.out 3))
                        have n0_ : Aside0 (((((w93.setCell ⟨gb496, 0, none⟩ (.int .i64 4)).setCell ⟨gb496, 1, none⟩ (.int .i64 0)).setCell ⟨gb496, 2, none⟩ (.float .f64 0)).setCell ⟨gb496, 3, none⟩ (.string t493)).heap[gb477]? = some (.cells #[.int .i64 0, .int .i64 0, .float .f64 0, .string (⟨#[]⟩ : ByteArray)] 50 (0, 0))) := ⟨by (with_reducible repeat (first | refine blk_drewN ?_ _ | refine blk_drew ?_ | refine blk_alloc ?_ _)); refine blk_far ?_ NB477_496.out _; (with_reducible repeat (first | refine blk_drewN ?_ _ | refine blk_drew ?_ | refine blk_alloc ?_ _)); refine blk_far ?_ NB477_496.out _; (with_reducible repeat (first | refine blk_drewN ?_ _ | refine blk_drew ?_ | refine blk_alloc ?_ _)); refine blk_far ?_ NB477_496.out _; (with_reducible repeat (first | refine blk_drewN ?_ _ | refine blk_drew ?_ | refine blk_alloc ?_ _)); refine blk_far ?_ NB477_496.out _; (with_reducible repeat (first | refine blk_drewN ?_ _ | refine blk_drew ?_ | refine blk_alloc ?_ _)); exact BK477.out⟩
                        have n1_ : Aside0 (((((w93.setCell ⟨gb496, 0, none⟩ (.int .i64 4)).setCell ⟨gb496, 1, none⟩ (.int .i64 0)).setCell ⟨gb496, 2, none⟩ (.float .f64 0)).setCell ⟨gb496, 3, none⟩ (.string t493)).heap[gb496]? = some (.cells #[.int .i64 4, .int .i64 0, .float .f64 0, .string t493] 50 (0, 0))) := ⟨by (with_reducible repeat (first | refine blk_drewN ?_ _ | refine blk_drew ?_ | refine blk_alloc ?_ _)); refine blk_put (cs := #[.int .i64 4, .int .i64 0, .float .f64 0, .string (⟨#[]⟩ : ByteArray)]) ?_ 3 _ rfl; (with_reducible repeat (first | refine blk_drewN ?_ _ | refine blk_drew ?_ | refine blk_alloc ?_ _)); refine blk_put (cs := #[.int .i64 4, .int .i64 0, .float .f64 0, .string (⟨#[]⟩ : ByteArray)]) ?_ 2 _ rfl; (with_reducible repeat (first | refine blk_drewN ?_ _ | refine blk_drew ?_ | refine blk_alloc ?_ _)); refine blk_put (cs := #[.int .i64 4, .int .i64 0, .float .f64 0, .string (⟨#[]⟩ : ByteArray)]) ?_ 1 _ rfl; (with_reducible repeat (first | refine blk_drewN ?_ _ | refine blk_drew ?_ | refine blk_alloc ?_ _)); refine blk_put (cs := #[.int .i64 0, .int .i64 0, .float .f64 0, .string (⟨#[]⟩ : ByteArray)]) ?_ 0 _ rfl; (with_reducible repeat (first | refine blk_drewN ?_ _ | refine blk_drew ?_ | refine blk_alloc ?_ _)); exact BK496.out⟩
                        have n2_ : Aside0 (Below w.heap.size w ((((w93.setCell ⟨gb496, 0, none⟩ (.int .i64 4)).setCell ⟨gb496, 1, none⟩ (.int .i64 0)).setCell ⟨gb496, 2, none⟩ (.float .f64 0)).setCell ⟨gb496, 3, none⟩ (.string t493))) := ⟨by repeat (first | (with_reducible first | exact HB.out | apply below_alloc | apply pw_below_drewN | apply below_drew1 | refine below_set ?_ GE477.out | refine below_set ?_ GE496.out) | exact HB.out)⟩
                        (try clear BK477)
                        (try clear BK496)
                        (try clear HB)
                        generalize ((((w93.setCell ⟨gb496, 0, none⟩ (.int .i64 4)).setCell ⟨gb496, 1, none⟩ (.int .i64 0)).setCell ⟨gb496, 2, none⟩ (.float .f64 0)).setCell ⟨gb496, 3, none⟩ (.string t493)) = w96 at n0_ n1_ n2_ ⊢
                        have BK477 := n0_
                        have BK496 := n1_
                        have HB := n2_
                        clear n0_ n1_ n2_
                        have n0_ := Aside0.mk (blk_drew BK477.out)
                        have n1_ := Aside0.mk (blk_drew BK496.out)
                        have n2_ := Aside0.mk (below_drew1 HB.out)
                        clear BK477
                        clear BK496
                        clear HB
                        have BK477 := n0_
                        have BK496 := n1_
                        have HB := n2_
                        clear n0_ n1_ n2_
                        refine start_ (n := 11) (S := fun w' => w'.cell? ⟨gb496, 0, none⟩ = some (.int .i64 4) ∧ w'.cell? ⟨gb496, 1, none⟩ = some (.int .i64 0) ∧ w'.cell? ⟨gb496, 2, none⟩ = some (.float .f64 0) ∧ w'.cell? ⟨gb496, 3, none⟩ = some (.string t493)) (ds := []) #[false, false, false, false, false, false, false, false, false, false, false] (by kernel_rfl) rfl rfl ⟨(blk_cell BK496.out 0).trans rfl, (blk_cell BK496.out 1).trans rfl, (blk_cell BK496.out 2).trans rfl, (blk_cell BK496.out 3).trans rfl⟩ (fun hHeld => ?_); refine with_tabW code_get.tab20 code_get.bits20 (fun HT_ HW_ => ?_)
                        generalize w96.drew = w97 at BK477 BK496 HB hHeld ⊢
                        refine pure_ (i := 1) (N := some 72) (v := ?_) (a' := ?_) #[false, true, false, false, false, false, false, false, false, false, false] rfl rfl (any_of HT_.out (by kernel_rfl)) (fun _ _ _ h => h) (Or.inl ⟨by rfl, ?_⟩) ?_ ?_
                        rotate_left
                        · intro w'
                          go_simp
                          with_reducible rfl
                        rotate_left
                        · simp only [Act.put, List.setIfInBounds_toArray, List.set_cons_zero, List.set_cons_succ, i64_w, i32_w]
                          rfl
                        refine pure_ (i := 2) (N := some 73) (v := ?_) (a' := ?_) #[false, true, true, false, false, false, false, false, false, false, false] rfl rfl (any_of HT_.out (by kernel_rfl)) (fun _ _ _ h => h) (Or.inl ⟨by rfl, ?_⟩) ?_ ?_
                        rotate_left
                        · intro w'
                          go_simp
                          with_reducible rfl
                        rotate_left
                        · simp only [Act.put, List.setIfInBounds_toArray, List.set_cons_zero, List.set_cons_succ, i64_w, i32_w]
                          rfl
                        refine pure_ (i := 3) (N := some 74) (v := ?_) (a' := ?_) #[false, true, true, true, false, false, false, false, false, false, false] rfl rfl (any_of HT_.out (by kernel_rfl)) (fun _ _ _ h => h) (Or.inl ⟨by rfl, ?_⟩) ?_ ?_
                        rotate_left
                        · intro w'
                          go_simp
                          with_reducible rfl
                        rotate_left
                        · simp only [Act.put, List.setIfInBounds_toArray, List.set_cons_zero, List.set_cons_succ, i64_w, i32_w]
                          rfl
                        refine pure_ (i := 4) (N := some 75) (v := undef) (a' := ?_) #[false, true, true, true, true, false, false, false, false, false, false] rfl rfl (any_of HT_.out (by kernel_rfl)) (fun _ _ _ h => h) (Or.inr ⟨by rfl, rfl⟩) ?_ ?_
                        rotate_left
                        · simp only [Act.put, List.setIfInBounds_toArray, List.set_cons_zero, List.set_cons_succ, i64_w, i32_w]
                          rfl
                        refine pure_ (i := 5) (N := some 76) (v := undef) (a' := ?_) #[false, true, true, true, true, true, false, false, false, false, false] rfl rfl (any_of HT_.out (by kernel_rfl)) (fun _ _ _ h => h) (Or.inr ⟨by rfl, rfl⟩) ?_ ?_
                        rotate_left
                        · simp only [Act.put, List.setIfInBounds_toArray, List.set_cons_zero, List.set_cons_succ, i64_w, i32_w]
                          rfl
                        refine pure_ (i := 6) (N := some 77) (v := undef) (a' := ?_) #[false, true, true, true, true, true, true, false, false, false, false] rfl rfl (any_of HT_.out (by kernel_rfl)) (fun _ _ _ h => h) (Or.inr ⟨by rfl, rfl⟩) ?_ ?_
                        rotate_left
                        · simp only [Act.put, List.setIfInBounds_toArray, List.set_cons_zero, List.set_cons_succ, i64_w, i32_w]
                          rfl
                        refine pure_ (i := 7) (N := some 78) (v := ?_) (a' := ?_) #[false, true, true, true, true, true, true, true, false, false, false] rfl rfl (any_of HT_.out (by kernel_rfl)) (fun _ _ _ h => h) (Or.inl ⟨by rfl, ?_⟩) ?_ ?_
                        rotate_left
                        · intro w'
                          go_simp
                          with_reducible rfl
                        rotate_left
                        · simp only [Act.put, List.setIfInBounds_toArray, List.set_cons_zero, List.set_cons_succ, i64_w, i32_w]
                          rfl
                        refine take_ (i := 0) (N := some 71) (v := ?_) (a' := ?_) #[true, true, true, true, true, true, true, true, false, false, false] rfl rfl (take_ofW HT_.out HW_.out (by kernel_rfl)) (fun _ _ _ h => h) (Or.inl ⟨by rfl, ?_⟩) hHeld ?_ ?_
                        rotate_left
                        · rintro w' ⟨s0, s1, s2, s3⟩
                          go_simp
                          with_reducible rfl
                        rotate_left
                        · simp only [Act.put, List.setIfInBounds_toArray, List.set_cons_zero, List.set_cons_succ, i64_w, i32_w]
                          rfl
                        refine one_ (i := 8) (N := none) #[true, true, true, true, true, true, true, true, true, false, false] rfl rfl (one_of HT_.out (by kernel_rfl)) (by decide) (fun K hK => ?_)
                        have hs98 : w97.cell? ⟨gb477, 0, none⟩ = some (.int .i64 0) := (blk_cell BK477.out 0).trans rfl
                        have hfs98 := blk_frozen BK477.out 0
                        have hns98_1 := NB496_477.out
                        have hms98_1 := NB477_496.out
                        have hs99 : w97.cell? ⟨gb477, 1, none⟩ = some (.int .i64 0) := (blk_cell BK477.out 1).trans rfl
                        have hfs99 := blk_frozen BK477.out 1
                        have hns99_1 := NB496_477.out
                        have hms99_1 := NB477_496.out
                        have hs100 : w97.cell? ⟨gb477, 2, none⟩ = some (.float .f64 0) := (blk_cell BK477.out 2).trans rfl
                        have hfs100 := blk_frozen BK477.out 2
                        have hns100_1 := NB496_477.out
                        have hms100_1 := NB477_496.out
                        have hs101 : w97.cell? ⟨gb477, 3, none⟩ = some (.string (⟨#[]⟩ : ByteArray)) := (blk_cell BK477.out 3).trans rfl
                        have hfs101 := blk_frozen BK477.out 3
                        have hns101_1 := NB496_477.out
                        have hms101_1 := NB477_496.out
                        refine skip_ (w1 := ?_) (by rfl) rfl ?_ ?_
                        rotate_left
                        · go_simp
                          rfl
                        refine hK.out _ _ ⟨((cell_far (p := ⟨gb477, _, none⟩) NB496_477.out _).trans (((cell_far (p := ⟨gb477, _, none⟩) NB496_477.out _).trans (((cell_far (p := ⟨gb477, _, none⟩) NB496_477.out _).trans (((cell_far (p := ⟨gb477, _, none⟩) NB496_477.out _).trans (hHeld.1)))))))), ((cell_far (p := ⟨gb477, _, none⟩) NB496_477.out _).trans (((cell_far (p := ⟨gb477, _, none⟩) NB496_477.out _).trans (((cell_far (p := ⟨gb477, _, none⟩) NB496_477.out _).trans (((cell_far (p := ⟨gb477, _, none⟩) NB496_477.out _).trans (hHeld.2.1)))))))), ((cell_far (p := ⟨gb477, _, none⟩) NB496_477.out _).trans (((cell_far (p := ⟨gb477, _, none⟩) NB496_477.out _).trans (((cell_far (p := ⟨gb477, _, none⟩) NB496_477.out _).trans (((cell_far (p := ⟨gb477, _, none⟩) NB496_477.out _).trans (hHeld.2.2.1)))))))), ((cell_far (p := ⟨gb477, _, none⟩) NB496_477.out _).trans (((cell_far (p := ⟨gb477, _, none⟩) NB496_477.out _).trans (((cell_far (p := ⟨gb477, _, none⟩) NB496_477.out _).trans (((cell_far (p := ⟨gb477, _, none⟩) NB496_477.out _).trans (hHeld.2.2.2))))))))⟩ (fun hHeld => ?_)
                        clear hK K
                        refine pure_ (i := 9) (N := some 3) (v := ?_) (a' := ?_) #[true, true, true, true, true, true, true, true, true, true, false] rfl rfl (any_of HT_.out (by kernel_rfl)) (fun _ _ _ h => h) (Or.inl ⟨by rfl, ?_⟩) ?_ ?_
                        rotate_left
                        · intro w'
                          go_simp
                          with_reducible rfl
                        rotate_left
                        · simp only [Act.put, List.setIfInBounds_toArray, List.set_cons_zero, List.set_cons_succ, i64_w, i32_w]
                          rfl
                        refine pure_ (i := 10) (N := some 4) (v := ?_) (a' := ?_) #[true, true, true, true, true, true, true, true, true, true, true] rfl rfl (any_of HT_.out (by kernel_rfl)) (fun _ _ _ h => h) (Or.inl ⟨by rfl, ?_⟩) ?_ ?_
                        rotate_left
                        · intro w'
                          go_simp
                          with_reducible rfl
                        rotate_left
                        · simp only [Act.put, List.setIfInBounds_toArray, List.set_cons_zero, List.set_cons_succ, i64_w, i32_w]
                          rfl
                        refine done_ (done_of HT_.out (by kernel_rfl)) ?_
                        try go_wp2
                        refine bodyPost_ret (results_ctt rfl _ _ gb477 50 #[.int .i64 4, .int .i64 0, .float .f64 0, .string t493] (0, 0) _ rfl (by (with_reducible repeat (first | refine blk_drewN ?_ _ | refine blk_drew ?_ | refine blk_alloc ?_ _)); refine blk_put (cs := #[.int .i64 4, .int .i64 0, .float .f64 0, .string (⟨#[]⟩ : ByteArray)]) ?_ 3 _ rfl; (with_reducible repeat (first | refine blk_drewN ?_ _ | refine blk_drew ?_ | refine blk_alloc ?_ _)); refine blk_put (cs := #[.int .i64 4, .int .i64 0, .float .f64 0, .string (⟨#[]⟩ : ByteArray)]) ?_ 2 _ rfl; (with_reducible repeat (first | refine blk_drewN ?_ _ | refine blk_drew ?_ | refine blk_alloc ?_ _)); refine blk_put (cs := #[.int .i64 4, .int .i64 0, .float .f64 0, .string (⟨#[]⟩ : ByteArray)]) ?_ 1 _ rfl; (with_reducible repeat (first | refine blk_drewN ?_ _ | refine blk_drew ?_ | refine blk_alloc ?_ _)); refine blk_put (cs := #[.int .i64 0, .int .i64 0, .float .f64 0, .string (⟨#[]⟩ : ByteArray)]) ?_ 0 _ rfl; (with_reducible repeat (first | refine blk_drewN ?_ _ | refine blk_drew ?_ | refine blk_alloc ?_ _)); exact BK477.out) Tryd.underlying50 rfl (by kernel_rfl)) rfl ?_
                        exact ⟨by first | rfl | (simp [errW_none, errW_some] <;> rfl) | (simp [*, errW_none, errW_some] <;> rfl), by repeat (first | (with_reducible first | exact HB.out | apply below_alloc | apply pw_below_drewN | apply below_drew1 | refine below_set ?_ GE477.out | refine below_set ?_ GE496.out) | exact HB.out)⟩
                  · replace c53 := Bool.eq_false_iff.mpr c53
                    subst c53
                    have H1 : (some (0, 0, 0, (⟨#[]⟩ : ByteArray), (⟨#[]⟩ : ByteArray), false)) = some (r1, r2, r3, r4, r5, r6) := by rw [if_neg (show ¬ (false = true) by decide)] at H; exact H
                    clear H
                    have H := H1
                    clear H1
                    simp only [Option.some.injEq, Prod.mk.injEq] at H
                    obtain ⟨rfl, rfl, rfl, rfl, rfl, rfl⟩ := H
                    have hcz102_0 : wc.cell? ⟨gb477, 0, none⟩ = some (.int .i64 0) := (blk_cell BK477.out 0).trans rfl
                    have hcz102_1 : wc.cell? ⟨gb477, 1, none⟩ = some (.int .i64 0) := (blk_cell BK477.out 1).trans rfl
                    have hcz102_2 : wc.cell? ⟨gb477, 2, none⟩ = some (.float .f64 0) := (blk_cell BK477.out 2).trans rfl
                    have hcz102_3 : wc.cell? ⟨gb477, 3, none⟩ = some (.string (⟨#[]⟩ : ByteArray)) := (blk_cell BK477.out 3).trans rfl
                    have hfz102_0 := blk_frozen BK477.out 0
                    have hfz102_1 := blk_frozen BK477.out 1
                    have hfz102_2 := blk_frozen BK477.out 2
                    have hfz102_3 := blk_frozen BK477.out 3
                    go_wp2
                    refine bodyPost_ret (results_ctt rfl _ _ gb477 50 #[.int .i64 0, .int .i64 0, .float .f64 0, .string (⟨#[]⟩ : ByteArray)] (0, 0) _ rfl (by (with_reducible repeat (first | refine blk_drewN ?_ _ | refine blk_drew ?_ | refine blk_alloc ?_ _)); refine blk_put (cs := #[.int .i64 0, .int .i64 0, .float .f64 0, .string (⟨#[]⟩ : ByteArray)]) ?_ 3 _ rfl; (with_reducible repeat (first | refine blk_drewN ?_ _ | refine blk_drew ?_ | refine blk_alloc ?_ _)); refine blk_put (cs := #[.int .i64 0, .int .i64 0, .float .f64 0, .string (⟨#[]⟩ : ByteArray)]) ?_ 2 _ rfl; (with_reducible repeat (first | refine blk_drewN ?_ _ | refine blk_drew ?_ | refine blk_alloc ?_ _)); refine blk_put (cs := #[.int .i64 0, .int .i64 0, .float .f64 0, .string (⟨#[]⟩ : ByteArray)]) ?_ 1 _ rfl; (with_reducible repeat (first | refine blk_drewN ?_ _ | refine blk_drew ?_ | refine blk_alloc ?_ _)); refine blk_put (cs := #[.int .i64 0, .int .i64 0, .float .f64 0, .string (⟨#[]⟩ : ByteArray)]) ?_ 0 _ rfl; (with_reducible repeat (first | refine blk_drewN ?_ _ | refine blk_drew ?_ | refine blk_alloc ?_ _)); exact BK477.out) Tryd.underlying50 rfl (by kernel_rfl)) rfl ?_
                    exact ⟨by first | rfl | (simp [errW_none, errW_some] <;> rfl) | (simp [*, errW_none, errW_some] <;> rfl), by repeat (first | (with_reducible first | exact HB.out | apply below_alloc | apply pw_below_drewN | apply below_drew1 | refine below_set ?_ GE477.out) | exact HB.out)⟩
    · rw [if_neg c4] at H
      exact absurd H (by simp)
  · rw [if_neg c2] at H
    exact absurd H (by simp)
end Go.Proofs.YtpiifdbicibelaaDoor.PA
end
section
namespace Go.Proofs.YtpiifdbicibelaaDoor.PA
open Go.RowKit Go.Proofs.YtpiifdbicibelaaDoorW.PrintWords Go.Proofs.YtpiifdbicibelaaDoorW.PrintLast Go.Proofs.YtpiifdbicibelaaDoorW.PrintMore
attribute [local go_sem] max2_int min2_int max_two min_two max_three min_three max_four min_four   -- for this text's walks alone
set_option linter.unusedVariables false
set_option linter.unusedSimpArgs false
def code_Decode.l0 : Nat → ByteArray → List (S50) → Option ((List (S50)) × Int)
  | 0, _, _ => none
  | k + 1, x0, x4 => if (x0.size : Int) > 0 then ((code_get.f k x0).bind fun bt499 => (if bt499.2.2.2.2.2 = true then (if x4.length < 3518437208883 then (code_Decode.l0 k bt499.2.2.2.2.1 (x4 ++ [(⟨bt499.1, bt499.2.1, bt499.2.2.1, bt499.2.2.2.1⟩ : S50)])) else (none)) else (some (([] : List (S50)), 20)))) else (some (x4, 0))
def code_Decode.f (k : Nat) (a0 : ByteArray) : Option ((List (S50)) × Int) := if (a0.size : Int) > 1024 then (some (([] : List (S50)), 3)) else (code_Decode.l0 k a0 ([] : List (S50)))
set_option maxHeartbeats 8000000 in
set_option maxRecDepth 100000 in
theorem code_Decode.calls (k : Nat) (a0 : ByteArray) (r1 : List (S50)) (r2 : Int) (w : World) (hG : Glob w) (h : code_Decode.f k a0 = some (r1, r2)) :
    Calls Tryd.prog 43 #[.string a0] w fun e w' => ∃ v0_ : Value, e = .returned (.tuple #[v0_, .int .i64 r2]) ∧ Kd.R k50 50 w' w.heap.size (fun _ => True) v0_ r1 ∧ Below w.heap.size w w' := by
  have hu50 := Tryd.underlying50
  have HG := Aside0.mk hG
  clear hG
  have HB := Aside0.mk (Below.refl w.heap.size w)
  have H : (if (a0.size : Int) > 1024 then (some (([] : List (S50)), 3)) else (code_Decode.l0 k a0 ([] : List (S50)))) = some (r1, r2) := h
  clear h
  by_cases c2 : (a0.size : Int) > 1024
  · rw [if_pos c2] at H
    have c2b0 : decide (1024 < (a0.size : Int)) = true := decide_eq_true c2
    have c2b1 : decide (1024 < a0.size) = true := decide_eq_true (by omega)
    clear c2
    simp only [Option.some.injEq, Prod.mk.injEq] at H
    obtain ⟨rfl, rfl⟩ := H
    go_enter Tryd.func43, Tryd.ntmps43
    go_wp2
    go_ret2
    exact ⟨_, by first | rfl | (simp [errW_none, errW_some] <;> rfl) | (simp [*, errW_none, errW_some] <;> rfl), by first | exact Kd.R_nil _ _ _ _ _ | exact Kd.N_nil _ _ _ _ _ | exact Kd.V_nil _ _ _ _ _ | exact Kd.Q_nil _ _ _ _ _ | exact Kd.S_nil _ _ _ _ _, by repeat (first | (with_reducible first | exact HB.out | apply below_alloc | apply pw_below_drewN | apply below_drew1) | exact HB.out)⟩
  · rw [if_neg c2] at H
    have c2b0 : decide (1024 < (a0.size : Int)) = false := decide_eq_false c2
    have c2b1 : decide (1024 < a0.size) = false := decide_eq_false (by omega)
    clear c2
    have H' := Aside0.mk H
    clear H
    go_enter Tryd.func43, Tryd.ntmps43
    go_wp2
    go_loopg [0, 4] k (fun kq v0 v4 w' => ∃ (x0_1 : ByteArray) (x4_1 : List (S50)), v0 = .string x0_1 ∧ Aside0 (code_Decode.l0 kq x0_1 x4_1 = some (r1, r2)) ∧ Aside0 (kq ≤ k) ∧ Aside0 (Kd.R k50 50 w' w.heap.size (fun _ => True) v4 x4_1) ∧ Aside0 (Below w.heap.size w w'))
    case atStart => exact ⟨(a0), (([] : List (S50))), (by first | rfl | (simp; done) | (simp [*]; done) | (simp [bool_ne_nil]; done) | (simp; exact bool_ne_nil _)), H', ⟨Nat.le_refl _⟩, ⟨by first | exact Kd.R_nil _ _ _ _ _ | exact Kd.N_nil _ _ _ _ _ | exact Kd.V_nil _ _ _ _ _ | exact Kd.Q_nil _ _ _ _ _ | exact Kd.S_nil _ _ _ _ _⟩, ⟨by repeat (first | (with_reducible first | exact HB.out | apply below_alloc | apply pw_below_drewN | apply below_drew1) | exact HB.out)⟩⟩
    case round =>
      clear H'
      try clear c2
      try clear c2b0
      try clear c2b1
      try clear p2
      obtain ⟨x0_1, x4_1, rfl, HA, HK1, HO_4, HB⟩ := hrel
      cases gk with
      | zero => exact absurd HA.out (by simp [code_Decode.l0])
      | succ k1 =>
        have H := HA.out
        clear HA
        simp only [code_Decode.l0] at H
        by_cases c3 : (x0_1.size : Int) > 0
        · rw [if_pos c3] at H
          have c3b0 : decide (0 < (x0_1.size : Int)) = true := decide_eq_true c3
          have c3b1 : decide (0 < x0_1.size) = true := decide_eq_true (by omega)
          clear c3
          replace H := Option.bind_eq_some_iff.mp H
          obtain ⟨⟨t499, t500, t501, t502, t503, t504⟩, A40, H⟩ := H
          replace H : (if t504 = true then (if x4_1.length < 3518437208883 then (code_Decode.l0 k1 t503 (x4_1 ++ [(⟨t499, t500, t501, t502⟩ : S50)])) else (none)) else (some (([] : List (S50)), 20))) = some (r1, r2) := H
          have A4 := Aside0.mk A40
          clear A40
          by_cases c5 : t504 = true
          · subst c5
            have H1 : (if x4_1.length < 3518437208883 then (code_Decode.l0 k1 t503 (x4_1 ++ [(⟨t499, t500, t501, t502⟩ : S50)])) else (none)) = some (r1, r2) := by rw [if_pos rfl] at H; exact H
            clear H
            have H := H1
            clear H1
            by_cases c6 : x4_1.length < 3518437208883
            · rw [if_pos c6] at H
              have LMc6 := Aside0.mk c6
              clear c6
              obtain ⟨y506, hy506⟩ : ∃ y_ : List (S50), y_ = (x4_1 ++ [(⟨t499, t500, t501, t502⟩ : S50)]) := ⟨_, rfl⟩
              replace H : (code_Decode.l0 k1 t503 y506) = some (r1, r2) := by first | (rw [hy506]; with_reducible exact H) | (have H2_ := (Option.bind_some _ _).symm.trans H; rw [hy506]; with_reducible exact H2_) | (have H2_ := (Option.bind_some _ _).symm.trans H; with_reducible exact H2_) | with_reducible exact H | (rw [hy506]; exact H) | exact H
              have Ny506 := Aside0.mk hy506
              clear hy506
              have H' := Aside0.mk H
              clear H
              go_wp2_with (first | ((with_reducible refine gate_callee (f := 72) rfl ?_); refine goesL_ (some 16) rfl rfl Tryd.func72 (by kernel_rfl) rfl #[.string x0_1] rfl (by (try simp only [List.map_toArray, List.map_cons, List.map_nil]); first | done | rfl | (simp only [List.length_drop, List.length_take]; rfl)) ?_; (with_reducible refine (code_get.calls k1 x0_1 t499 t500 t501 t502 t503 true _ ?side1 A4.out).mono ?_); (case side1 => exact Glob.below HG.out (by repeat (first | (with_reducible first | exact HB.out | apply below_alloc | apply pw_below_drewN | apply below_drew1) | exact HB.out))); rintro e w7 ⟨rfl, hb⟩; refine ⟨_, rfl, ?_⟩; have n0_ := Aside0.mk (Kd.R_below (by (with_reducible repeat (first | apply Kd.R_alloc | apply Kd.R_drewN | apply Kd.R_drew)); exact HO_4.out) hb); have n1_ := Aside0.mk (below_step (by repeat (first | (with_reducible first | exact HB.out | apply below_alloc | apply pw_below_drewN | apply below_drew1) | exact HB.out)) hb); clear HO_4; clear HB; have HO_4 := n0_; have HB := n1_; clear n0_ n1_; (try clear hb); (try clear hb2); (try clear hk); (try clear hi)) | ((with_reducible refine gate_dst (N := 5) rfl ?_); refine box_event ?hg (N := 5) ?hd (cs := #[.int .i64 0, .int .i64 0, .float .f64 0, .string (⟨#[]⟩ : ByteArray)]) (t := 50) ?hr ?_; (case hd => rfl); (case hg => rfl); (case hr => first | (go_simp; done) | (go_simp; rfl)); intro gb505 hg w8 hbox hb; have n0_ := Aside0.mk (Kd.R_below (Kd.R_elderB (by (with_reducible repeat (first | apply Kd.R_alloc | apply Kd.R_drewN | apply Kd.R_drew)); exact HO_4.out) gb505 (Nat.le_of_eq hg.symm)) hb); have n1_ := Aside0.mk (below_step (by repeat (first | (with_reducible first | exact HB.out | apply below_alloc | apply pw_below_drewN | apply below_drew1) | exact HB.out)) hb); have n2_ := Aside0.mk (hbox); have n3_ := Aside0.mk ((by rw [hg]; exact (below_size (by repeat (first | (with_reducible first | exact HB.out | apply below_alloc | apply pw_below_drewN | apply below_drew1) | exact HB.out))) : w.heap.size ≤ gb505)); have n4_ := Aside0.mk ((by rw [hg]; exact (below_size (by repeat (first | (with_reducible first | exact HB.out | apply below_alloc | apply pw_below_drewN | apply below_drew1) | exact HB.out))) : w.heap.size ≤ gb505)); clear HO_4; clear HB; have HO_4 := n0_; have HB := n1_; have BK505 := n2_; have GW505 := n3_; have GE505 := n4_; clear n0_ n1_ n2_ n3_ n4_; clear hb hbox hg; have hcz9_0 : w8.cell? ⟨gb505, 0, none⟩ = some (.int .i64 0) := (blk_cell BK505.out 0).trans rfl; have hcz9_1 : w8.cell? ⟨gb505, 1, none⟩ = some (.int .i64 0) := (blk_cell BK505.out 1).trans rfl; have hcz9_2 : w8.cell? ⟨gb505, 2, none⟩ = some (.float .f64 0) := (blk_cell BK505.out 2).trans rfl; have hcz9_3 : w8.cell? ⟨gb505, 3, none⟩ = some (.string (⟨#[]⟩ : ByteArray)) := (blk_cell BK505.out 3).trans rfl; have hfz9_0 := blk_frozen BK505.out 0; have hfz9_1 := blk_frozen BK505.out 1; have hfz9_2 := blk_frozen BK505.out 2; have hfz9_3 := blk_frozen BK505.out 3) | ((with_reducible refine gate_builtin (b := .append) (xs := #[.tmp 22, .tmp 24]) rfl ?_); at_builtin; refine Kd.R_append k50 (w0 := w) w.heap.size rfl (.tmp 22) (.tmp 24) 22 50 (.agg #[(.int .i64 0), (.int .i64 0), (.float .f64 0), (.string ⟨#[]⟩)]) 40 rfl Tryd.underlying22 info50 rfl (by decide) (by omega) u4 x4_1 (⟨t499, t500, t501, t502⟩ : S50) [.int .i64 t499, .int .i64 t500, .float .f64 t501, .string t502] (fun k_ => k_ ≠ gb505) (fun _ => False) rfl (by first | (go_simp; done) | (go_simp; rfl)) ?aP (fun _ hk => hk.elim) ?aF ?aO ?aB ?aS ?aL ?_; (case aP => exact k50_mkM _ _ _ (⟨t499, t500, t501, t502⟩ : S50)); (case aB => exact (by repeat (first | (with_reducible first | exact HB.out | apply below_alloc | apply pw_below_drewN | apply below_drew1 | refine below_set ?_ GE505.out) | exact HB.out))); (case aF => exact (fun k_ hk => Kd.freshB (g := gb505) (o := .cells #[.int .i64 t499, .int .i64 t500, .float .f64 t501, .string t502] 50 (0, 0)) (by (with_reducible repeat (first | refine blk_drewN ?_ _ | refine blk_drew ?_ | refine blk_alloc ?_ _)); refine blk_put (cs := #[.int .i64 t499, .int .i64 t500, .float .f64 t501, .string (⟨#[]⟩ : ByteArray)]) ?_ 3 _ rfl; (with_reducible repeat (first | refine blk_drewN ?_ _ | refine blk_drew ?_ | refine blk_alloc ?_ _)); refine blk_put (cs := #[.int .i64 t499, .int .i64 t500, .float .f64 0, .string (⟨#[]⟩ : ByteArray)]) ?_ 2 _ rfl; (with_reducible repeat (first | refine blk_drewN ?_ _ | refine blk_drew ?_ | refine blk_alloc ?_ _)); refine blk_put (cs := #[.int .i64 t499, .int .i64 0, .float .f64 0, .string (⟨#[]⟩ : ByteArray)]) ?_ 1 _ rfl; (with_reducible repeat (first | refine blk_drewN ?_ _ | refine blk_drew ?_ | refine blk_alloc ?_ _)); refine blk_put (cs := #[.int .i64 0, .int .i64 0, .float .f64 0, .string (⟨#[]⟩ : ByteArray)]) ?_ 0 _ rfl; (with_reducible repeat (first | refine blk_drewN ?_ _ | refine blk_drew ?_ | refine blk_alloc ?_ _)); exact BK505.out) k_ hk)); (case aO => exact (by (with_reducible repeat (first | apply Kd.R_alloc | apply Kd.R_drewN | apply Kd.R_drew)); exact Kd.R_mono (Kd.R_far (p := ⟨gb505, 3, none⟩) (Kd.R_far (p := ⟨gb505, 2, none⟩) (Kd.R_far (p := ⟨gb505, 1, none⟩) (Kd.R_far (p := ⟨gb505, 0, none⟩) (Kd.R_mono HO_4.out (fun k_ hk => (⟨hk, hk.2⟩ : _ ∧ k_ ≠ gb505))) (fun _ hk => hk.2) (.int .i64 t499)) (fun _ hk => hk.2) (.int .i64 t500)) (fun _ hk => hk.2) (.float .f64 t501)) (fun _ hk => hk.2) (.string t502)) (fun _ hk => hk.1.2))); (case aS => exact (below_size (by repeat (first | (with_reducible first | exact HB.out | apply below_alloc | apply pw_below_drewN | apply below_drew1 | refine below_set ?_ GE505.out) | exact HB.out)))); (case aL => have := LMc6.out; omega); intro v507 w10 ho hb hg hat; rw [← Ny506.out] at ho; have n0_ := Aside0.mk (blk_grown (g := gb505) (o := .cells #[.int .i64 t499, .int .i64 t500, .float .f64 t501, .string t502] 50 (0, 0)) (by (with_reducible repeat (first | refine blk_drewN ?_ _ | refine blk_drew ?_ | refine blk_alloc ?_ _)); refine blk_put (cs := #[.int .i64 t499, .int .i64 t500, .float .f64 t501, .string (⟨#[]⟩ : ByteArray)]) ?_ 3 _ rfl; (with_reducible repeat (first | refine blk_drewN ?_ _ | refine blk_drew ?_ | refine blk_alloc ?_ _)); refine blk_put (cs := #[.int .i64 t499, .int .i64 t500, .float .f64 0, .string (⟨#[]⟩ : ByteArray)]) ?_ 2 _ rfl; (with_reducible repeat (first | refine blk_drewN ?_ _ | refine blk_drew ?_ | refine blk_alloc ?_ _)); refine blk_put (cs := #[.int .i64 t499, .int .i64 0, .float .f64 0, .string (⟨#[]⟩ : ByteArray)]) ?_ 1 _ rfl; (with_reducible repeat (first | refine blk_drewN ?_ _ | refine blk_drew ?_ | refine blk_alloc ?_ _)); refine blk_put (cs := #[.int .i64 0, .int .i64 0, .float .f64 0, .string (⟨#[]⟩ : ByteArray)]) ?_ 0 _ rfl; (with_reducible repeat (first | refine blk_drewN ?_ _ | refine blk_drew ?_ | refine blk_alloc ?_ _)); exact BK505.out) hg (Kd.R_away HO_4.out (fun _ hk => hk.2))); have n1_ := Aside0.mk (hb); have n2_ := Aside0.mk (ho); clear BK505; clear HB; clear HO_4; have BK505 := n0_; have HB := n1_; have HO508 := n2_; clear n0_ n1_ n2_; clear ho hb hg hat))
              go_roundg k1
              case measure => have := HK1.out; omega
              case rel => exact ⟨(t503), (y506), (by first | rfl | (simp; done) | (simp [*]; done) | (simp [bool_ne_nil]; done) | (simp; exact bool_ne_nil _)), H', ⟨by have := HK1.out; omega⟩, ⟨by (with_reducible repeat (first | apply Kd.R_alloc | apply Kd.R_drewN | apply Kd.R_drew)); exact Kd.R_mono HO508.out (fun _ hk => trivial)⟩, ⟨by repeat (first | (with_reducible first | exact HB.out | apply below_alloc | apply pw_below_drewN | apply below_drew1 | refine below_set ?_ GE505.out) | exact HB.out)⟩⟩
            · rw [if_neg c6] at H
              exact absurd H (by simp)
          · replace c5 := Bool.eq_false_iff.mpr c5
            subst c5
            have H1 : (some (([] : List (S50)), 20)) = some (r1, r2) := by rw [if_neg (show ¬ (false = true) by decide)] at H; exact H
            clear H
            have H := H1
            clear H1
            simp only [Option.some.injEq, Prod.mk.injEq] at H
            obtain ⟨rfl, rfl⟩ := H
            go_wp2_with (first | ((with_reducible refine gate_callee (f := 72) rfl ?_); refine goesL_ (some 16) rfl rfl Tryd.func72 (by kernel_rfl) rfl #[.string x0_1] rfl (by (try simp only [List.map_toArray, List.map_cons, List.map_nil]); first | done | rfl | (simp only [List.length_drop, List.length_take]; rfl)) ?_; (with_reducible refine (code_get.calls k1 x0_1 t499 t500 t501 t502 t503 false _ ?side1 A4.out).mono ?_); (case side1 => exact Glob.below HG.out (by repeat (first | (with_reducible first | exact HB.out | apply below_alloc | apply pw_below_drewN | apply below_drew1) | exact HB.out))); rintro e w11 ⟨rfl, hb⟩; refine ⟨_, rfl, ?_⟩; have n0_ := Aside0.mk (Kd.R_below (by (with_reducible repeat (first | apply Kd.R_alloc | apply Kd.R_drewN | apply Kd.R_drew)); exact HO_4.out) hb); have n1_ := Aside0.mk (below_step (by repeat (first | (with_reducible first | exact HB.out | apply below_alloc | apply pw_below_drewN | apply below_drew1) | exact HB.out)) hb); clear HO_4; clear HB; have HO_4 := n0_; have HB := n1_; clear n0_ n1_; (try clear hb); (try clear hb2); (try clear hk); (try clear hi)) | ((with_reducible refine gate_dst (N := 5) rfl ?_); refine box_event ?hg (N := 5) ?hd (cs := #[.int .i64 0, .int .i64 0, .float .f64 0, .string (⟨#[]⟩ : ByteArray)]) (t := 50) ?hr ?_; (case hd => rfl); (case hg => rfl); (case hr => first | (go_simp; done) | (go_simp; rfl)); intro gb505 hg w12 hbox hb; have n0_ := Aside0.mk (Kd.R_below (Kd.R_elderB (by (with_reducible repeat (first | apply Kd.R_alloc | apply Kd.R_drewN | apply Kd.R_drew)); exact HO_4.out) gb505 (Nat.le_of_eq hg.symm)) hb); have n1_ := Aside0.mk (below_step (by repeat (first | (with_reducible first | exact HB.out | apply below_alloc | apply pw_below_drewN | apply below_drew1) | exact HB.out)) hb); have n2_ := Aside0.mk (hbox); have n3_ := Aside0.mk ((by rw [hg]; exact (below_size (by repeat (first | (with_reducible first | exact HB.out | apply below_alloc | apply pw_below_drewN | apply below_drew1) | exact HB.out))) : w.heap.size ≤ gb505)); have n4_ := Aside0.mk ((by rw [hg]; exact (below_size (by repeat (first | (with_reducible first | exact HB.out | apply below_alloc | apply pw_below_drewN | apply below_drew1) | exact HB.out))) : w.heap.size ≤ gb505)); clear HO_4; clear HB; have HO_4 := n0_; have HB := n1_; have BK505 := n2_; have GW505 := n3_; have GE505 := n4_; clear n0_ n1_ n2_ n3_ n4_; clear hb hbox hg; have hcz13_0 : w12.cell? ⟨gb505, 0, none⟩ = some (.int .i64 0) := (blk_cell BK505.out 0).trans rfl; have hcz13_1 : w12.cell? ⟨gb505, 1, none⟩ = some (.int .i64 0) := (blk_cell BK505.out 1).trans rfl; have hcz13_2 : w12.cell? ⟨gb505, 2, none⟩ = some (.float .f64 0) := (blk_cell BK505.out 2).trans rfl; have hcz13_3 : w12.cell? ⟨gb505, 3, none⟩ = some (.string (⟨#[]⟩ : ByteArray)) := (blk_cell BK505.out 3).trans rfl; have hfz13_0 := blk_frozen BK505.out 0; have hfz13_1 := blk_frozen BK505.out 1; have hfz13_2 := blk_frozen BK505.out 2; have hfz13_3 := blk_frozen BK505.out 3))
            go_ret2
            exact ⟨_, by first | rfl | (simp [errW_none, errW_some] <;> rfl) | (simp [*, errW_none, errW_some] <;> rfl), by first | exact Kd.R_nil _ _ _ _ _ | exact Kd.N_nil _ _ _ _ _ | exact Kd.V_nil _ _ _ _ _ | exact Kd.Q_nil _ _ _ _ _ | exact Kd.S_nil _ _ _ _ _, by repeat (first | (with_reducible first | exact HB.out | apply below_alloc | apply pw_below_drewN | apply below_drew1 | refine below_set ?_ GE505.out) | exact HB.out)⟩
        · rw [if_neg c3] at H
          have c3b0 : decide (0 < (x0_1.size : Int)) = false := decide_eq_false c3
          have c3b1 : decide (0 < x0_1.size) = false := decide_eq_false (by omega)
          clear c3
          simp only [Option.some.injEq, Prod.mk.injEq] at H
          obtain ⟨rfl, rfl⟩ := H
          go_wp2
          go_ret2
          exact ⟨_, by first | rfl | (simp [errW_none, errW_some] <;> rfl) | (simp [*, errW_none, errW_some] <;> rfl), by (with_reducible repeat (first | apply Kd.R_alloc | apply Kd.R_drewN | apply Kd.R_drew)); exact HO_4.out, by repeat (first | (with_reducible first | exact HB.out | apply below_alloc | apply pw_below_drewN | apply below_drew1) | exact HB.out)⟩
def vellumref02_number.l0 : Nat → ByteArray → Int → Int → Option (Int)
  | 0, _, _, _ => none
  | k + 1, x0, x3, x4 => if x4 < (x0.size : Int) then (if 0 ≤ x4 then (vellumref02_number.l0 k x0 (Go.bits .or .u64 (IntKind.u64.wrap (x3 * 256)) (IntKind.u64.wrap (bt x0 x4))) (wrap64 (x4 + 1))) else (none)) else (some x3)
def vellumref02_number.f (k : Nat) (a0 : ByteArray) : Option (Int) := vellumref02_number.l0 k a0 0 0
end Go.Proofs.YtpiifdbicibelaaDoor.PA
end
section
namespace Go.Proofs.YtpiifdbicibelaaDoor.PA
open Go.RowKit Go.Proofs.YtpiifdbicibelaaDoorW.PrintWords Go.Proofs.YtpiifdbicibelaaDoorW.PrintLast Go.Proofs.YtpiifdbicibelaaDoorW.PrintMore
attribute [local go_sem] max2_int min2_int max_two min_two max_three min_three max_four min_four   -- for this text's walks alone
set_option linter.unusedVariables false
set_option linter.unusedSimpArgs false
mutual
def vellumref02_back.j0 : Nat → ByteArray → Bool → Int → Int → Nat → ByteArray → Option (Int × Int × Nat × ByteArray × Int)
  | 0, _, _, _, _, _, _ => none
  | k + 1, x0, x21, x511000, x511001, x511002, x511003 => if x21 = true then (if 1 < (x0.size : Int) then (some (x511000, wrap64 (bt x0 1), x511002, x511003, 2)) else (none)) else (if x511000 = 2 then (vellumref02_back.j1 k x0 (decide ((x0.size : Int) > 1)) x511000 x511001 x511002 x511003) else (vellumref02_back.j1 k x0 false x511000 x511001 x511002 x511003))
def vellumref02_back.j1 : Nat → ByteArray → Bool → Int → Int → Nat → ByteArray → Option (Int × Int × Nat × ByteArray × Int)
  | 0, _, _, _, _, _, _ => none
  | k + 1, x0, x40, x511000, x511001, x511002, x511003 => if x40 = true then (if 1 < (x0.size : Int) then (if (wrap64 ((wrap64 (bt x0 1)) - 128)) < 0 then (vellumref02_back.j2 k x0 (wrap64 ((wrap64 (bt x0 1)) - 128)) (wrap64 (-(wrap64 ((wrap64 (bt x0 1)) - 128)))) x511000 x511001 x511002 x511003) else (vellumref02_back.j2 k x0 (wrap64 ((wrap64 (bt x0 1)) - 128)) (wrap64 ((wrap64 (bt x0 1)) - 128)) x511000 x511001 x511002 x511003)) else (none)) else (if x511000 = 3 then (vellumref02_back.j5 k x0 (decide ((x0.size : Int) > 8)) x511000 x511001 x511002 x511003) else (vellumref02_back.j5 k x0 false x511000 x511001 x511002 x511003))
def vellumref02_back.j2 : Nat → ByteArray → Int → Int → Int → Int → Nat → ByteArray → Option (Int × Int × Nat × ByteArray × Int)
  | 0, _, _, _, _, _, _, _ => none
  | k + 1, x0, x5, x6, x511000, x511001, x511002, x511003 => if x6 > 8 then (vellumref02_back.j3 k x0 x5 x6 true x511000 x511001 x511002 x511003) else (vellumref02_back.j3 k x0 x5 x6 (decide ((x0.size : Int) < (wrap64 (2 + x6)))) x511000 x511001 x511002 x511003)
def vellumref02_back.j3 : Nat → ByteArray → Int → Int → Bool → Int → Int → Nat → ByteArray → Option (Int × Int × Nat × ByteArray × Int)
  | 0, _, _, _, _, _, _, _, _ => none
  | k + 1, x0, x5, x6, x66, x511000, x511001, x511002, x511003 => if x66 = true then (some (x511000, x511001, x511002, x511003, 0)) else (if 2 ≤ (wrap64 (2 + x6)) then (if (wrap64 (2 + x6)) ≤ (x0.size : Int) then ((vellumref02_number.f k (x0.extract 2 ((wrap64 (2 + x6)) : Int).toNat)).bind fun t511 => (if x5 < 0 then (if 0 ≤ (IntKind.u64.wrap (wrap64 (8 * x6))) then (vellumref02_back.j4 k x5 x6 (Go.bits .and .u64 (not64 t511) (IntKind.u64.wrap ((shl .u64 1 (IntKind.u64.wrap (wrap64 (8 * x6)))) - 1))) x511000 x511001 x511002 x511003) else (none)) else (vellumref02_back.j4 k x5 x6 t511 x511000 x511001 x511002 x511003))) else (none)) else (none))
def vellumref02_back.j4 : Nat → Int → Int → Int → Int → Int → Nat → ByteArray → Option (Int × Int × Nat × ByteArray × Int)
  | 0, _, _, _, _, _, _, _ => none
  | k + 1, x5, x6, x7, x511000, x511001, x511002, x511003 => if (x7 / 9223372036854775808) > 0 then (some (x511000, x511001, x511002, x511003, 0)) else (if x5 < 0 then (some (x511000, wrap64 ((wrap64 (-(wrap64 (x7)))) - 1), x511002, x511003, wrap64 (2 + x6))) else (some (x511000, wrap64 (x7), x511002, x511003, wrap64 (2 + x6))))
def vellumref02_back.j5 : Nat → ByteArray → Bool → Int → Int → Nat → ByteArray → Option (Int × Int × Nat × ByteArray × Int)
  | 0, _, _, _, _, _, _ => none
  | k + 1, x0, x100, x511000, x511001, x511002, x511003 => if x100 = true then (if 1 ≤ 9 then (if 9 ≤ (x0.size : Int) then ((vellumref02_number.f k (x0.extract 1 9)).bind fun t512 => (if (t512 / 9223372036854775808) > 0 then (some (x511000, x511001, (Go.bits .xor .u64 t512 9223372036854775808).toNat, x511003, 9)) else (some (x511000, x511001, (not64 t512).toNat, x511003, 9)))) else (none)) else (none)) else (if x511000 = 4 then (vellumref02_back.j6 k x0 true x511000 x511001 x511002 x511003) else (vellumref02_back.j6 k x0 (x511000 == 5) x511000 x511001 x511002 x511003))
def vellumref02_back.j6 : Nat → ByteArray → Bool → Int → Int → Nat → ByteArray → Option (Int × Int × Nat × ByteArray × Int)
  | 0, _, _, _, _, _, _ => none
  | k + 1, x0, x123, x511000, x511001, x511002, x511003 => if x123 = true then (vellumref02_back.l0 k x0 ([] : List Int) 1 x511000 x511001 x511002 x511003) else (some (x511000, x511001, x511002, x511003, 0))
def vellumref02_back.l0 : Nat → ByteArray → List Int → Int → Int → Int → Nat → ByteArray → Option (Int × Int × Nat × ByteArray × Int)
  | 0, _, _, _, _, _, _, _ => none
  | k + 1, x0, x9, x10, x511000, x511001, x511002, x511003 => if x10 < (x0.size : Int) then (if 0 ≤ x10 then (if (bt x0 x10) = 0 then (if (wrap64 (x10 + 1)) = (x0.size : Int) then (some (x511000, x511001, x511002, strOfNums x9, wrap64 (x10 + 1))) else (if 0 ≤ (wrap64 (x10 + 1)) then (if (wrap64 (x10 + 1)) < (x0.size : Int) then (if (bt x0 (wrap64 (x10 + 1))) = 255 then (if x9.length < 140737488355328 then (vellumref02_back.l0 k x0 (x9 ++ [0]) (wrap64 ((wrap64 (x10 + 1)) + 1)) x511000 x511001 x511002 x511003) else (none)) else (some (x511000, x511001, x511002, strOfNums x9, wrap64 (x10 + 1)))) else (none)) else (none))) else (if x9.length < 140737488355328 then (vellumref02_back.l0 k x0 (x9 ++ [bt x0 x10]) (wrap64 (x10 + 1)) x511000 x511001 x511002 x511003) else (none))) else (none)) else (some (x511000, x511001, x511002, x511003, 0))
end
def vellumref02_back.f (k : Nat) (a0 : ByteArray) : Option (Int × Int × Nat × ByteArray × Int) := if 0 < (a0.size : Int) then (if (wrap64 ((wrap64 (bt a0 0)) - 1)) = 0 then (some (wrap64 ((wrap64 (bt a0 0)) - 1), 0, 0, (⟨#[]⟩ : ByteArray), 1)) else (if (wrap64 ((wrap64 (bt a0 0)) - 1)) = 1 then (if (a0.size : Int) > 1 then (if 1 < (a0.size : Int) then (vellumref02_back.j0 k a0 (decide ((bt a0 1) < 2)) (wrap64 ((wrap64 (bt a0 0)) - 1)) 0 0 (⟨#[]⟩ : ByteArray)) else (none)) else (vellumref02_back.j0 k a0 false (wrap64 ((wrap64 (bt a0 0)) - 1)) 0 0 (⟨#[]⟩ : ByteArray))) else (vellumref02_back.j0 k a0 false (wrap64 ((wrap64 (bt a0 0)) - 1)) 0 0 (⟨#[]⟩ : ByteArray)))) else (none)
end Go.Proofs.YtpiifdbicibelaaDoor.PA
end
section
namespace Go.Proofs.YtpiifdbicibelaaDoor.Pure
open Go.RowKit Go.Proofs Go.Proofs.YtpiifdbicibelaaDoorW.PrintWords Go.Proofs.YtpiifdbicibelaaDoorW.PrintLast Go.Proofs.YtpiifdbicibelaaDoorW.PrintMore Go.Proofs.YtpiifdbicibelaaDoor.PA Go.Proofs.YtpiifdbicibelaaDoor.OpenK
set_option linter.unusedVariables false
set_option linter.unusedSimpArgs false
theorem str_size (L : List Int) : (strOfNums L).size = L.length := by
  rw [← data_length, strOfNums_data]; simp [toB]
theorem str_bytes (s : ByteArray) : strOfNums (bytesOf s) = s := by
  apply Go.WideShapes.bytes_inj
  rw [strOfNums_data]
  simp [toB, bytesOf, List.map_map, Function.comp_def]
theorem bytesOf_bytes (s : ByteArray) : Bytes (bytesOf s) := by
  intro x hx
  simp [bytesOf] at hx
  obtain ⟨b, _, rfl⟩ := hx
  have := b.toNat_lt
  omega
theorem toB_inj : ∀ {u v : List Int}, Bytes u → Bytes v → toB u = toB v → u = v
  | [], [], _, _, _ => rfl
  | [], _ :: _, _, _, h => by simp [toB] at h
  | _ :: _, [], _, _, h => by simp [toB] at h
  | a :: u, b :: v, hu, hv, h => by
    simp only [toB, List.map_cons, List.cons.injEq] at h
    have ha := hu a (by simp)
    have hb := hv b (by simp)
    have e := congrArg UInt8.toNat h.1
    rw [ofNat_toNat ha, ofNat_toNat hb] at e
    have e2 := toB_inj (u := u) (v := v) (fun x hx => hu x (by simp [hx])) (fun x hx => hv x (by simp [hx])) (by simpa [toB] using h.2)
    subst e2
    congr 1
    omega
theorem str_inj {u v : List Int} (hu : Bytes u) (hv : Bytes v) (h : strOfNums u = strOfNums v) : u = v := by
  refine toB_inj hu hv ?_
  rw [← strOfNums_data, ← strOfNums_data, h]
theorem str_bt {L : List Int} (hL : Bytes L) (i : Nat) (h : i < L.length) : bt (strOfNums L) (i : Int) = L[i] := by
  unfold bt
  simp only [Int.toNat_natCast]
  rw [dif_pos (by rw [str_size]; exact h)]
  have h1 : (strOfNums L)[i]'(by rw [str_size]; exact h) = (strOfNums L).data.toList[i]'(by rw [strOfNums_data]; simpa [toB] using h) := rfl
  rw [h1]
  have h2 : (strOfNums L).data.toList[i]'(by rw [strOfNums_data]; simpa [toB] using h) = UInt8.ofNat (L[i]).toNat := by
    simp only [strOfNums_data, toB, List.getElem_map]
  rw [h2, ofNat_toNat (hL _ (List.getElem_mem h))]
  have := hL _ (List.getElem_mem h)
  omega
theorem str_drop (L : List Int) (i : Nat) : (strOfNums L).extract i (strOfNums L).size = strOfNums (L.drop i) := by
  apply Go.WideShapes.bytes_inj
  rw [Lib.extract_to_end, strOfNums_data, strOfNums_data]
  simp [toB, List.map_drop]
theorem str_take (L : List Int) (i j : Nat) : (strOfNums L).extract i j = strOfNums ((L.drop i).take (j - i)) := by
  apply Go.WideShapes.bytes_inj
  rw [strOfNums_data]
  have := Lib.extract_data (strOfNums L) i j
  rw [this, strOfNums_data]
  simp [toB, List.map_take, List.map_drop]
theorem str_drop' (L : List Int) (i : Nat) : (strOfNums L).extract i L.length = strOfNums (L.drop i) := by
  have := str_drop L i
  rwa [str_size] at this
theorem Bytes.drop {L : List Int} (h : Bytes L) (i : Nat) : Bytes (L.drop i) := fun x hx => h x (List.mem_of_mem_drop hx)
theorem Bytes.take {L : List Int} (h : Bytes L) (i : Nat) : Bytes (L.take i) := fun x hx => h x (List.mem_of_mem_take hx)
theorem Bytes.tail {a : Int} {L : List Int} (h : Bytes (a :: L)) : Bytes L := fun x hx => h x (by simp [hx])
theorem Bytes.app {L M : List Int} (h : Bytes (L ++ M)) : Bytes L ∧ Bytes M := ⟨fun x hx => h x (by simp [hx]), fun x hx => h x (by simp [hx])⟩
def num : List Int → Int
  | [] => 0
  | x :: L => x * 256 ^ L.length + num L
theorem pow_pos (n : Nat) : (0 : Int) < 256 ^ n := Int.pow_pos (by decide)
theorem num_range : ∀ {L : List Int}, Bytes L → 0 ≤ num L ∧ num L < 256 ^ L.length
  | [], _ => by simp [num]
  | x :: L, h => by
    have ih := num_range h.tail
    have hx := h x (by simp)
    have hp := pow_pos L.length
    have h1 : 0 ≤ x * 256 ^ L.length := Int.mul_nonneg hx.1 (Int.le_of_lt hp)
    have h2 : x * 256 ^ L.length ≤ 255 * 256 ^ L.length := Int.mul_le_mul_of_nonneg_right hx.2 (Int.le_of_lt hp)
    simp only [num, List.length_cons, Int.pow_succ]
    omega
theorem be_num_aux : ∀ (L : List Int) (c : Int), Bytes L → be (c * 256 ^ L.length + num L) L.length = L
  | [], c, _ => rfl
  | x :: L, c, h => by
    have hx := h x (by simp)
    have hr := num_range h.tail
    have hp := pow_pos L.length
    have e : c * 256 ^ (L.length + 1) + num (x :: L) = (c * 256 + x) * 256 ^ L.length + num L := by
      simp only [num, Int.pow_succ]
      rw [Int.add_mul, Int.mul_assoc, Int.mul_comm (256 ^ L.length) 256]
      omega
    simp only [List.length_cons]
    rw [e, be]
    have hd : ((c * 256 + x) * 256 ^ L.length + num L) / 256 ^ L.length = c * 256 + x := by
      rw [Int.add_comm, Int.add_mul_ediv_right _ _ (by omega), Int.ediv_eq_zero_of_lt hr.1 hr.2]; omega
    rw [hd, be_num_aux L (c * 256 + x) h.tail]
    congr 1
    omega
theorem be_num {L : List Int} (h : Bytes L) : be (num L) L.length = L := by
  have := be_num_aux L 0 h
  simpa using this
theorem num_be (u : Int) (h0 : 0 ≤ u) : ∀ n, num (be u n) = u % 256 ^ n
  | 0 => by simp [be, num, Int.emod_one]
  | n + 1 => by
    have ih := num_be u h0 n
    simp only [be, num, be_length, ih]
    obtain ⟨U, rfl⟩ := Int.eq_ofNat_of_zero_le h0
    have hm := Nat.mod_mul (a := 256 ^ n) (b := 256) (x := U)
    have hpw : (256 : Int) ^ n = ((256 ^ n : Nat) : Int) := by simp
    rw [Int.pow_succ, hpw, ← Int.natCast_ediv, ← Int.natCast_emod]
    have e1 : ((U / 256 ^ n : Nat) : Int) % 256 = ((U / 256 ^ n % 256 : Nat) : Int) := by simp
    have e2 : (U : Int) % (((256 ^ n : Nat) : Int) * 256) = ((U % (256 ^ n * 256) : Nat) : Int) := by simp
    rw [e1, e2, hm, Nat.mul_comm (256 ^ n)]
    simp
    omega
theorem or_low (x b : Int) (hx : 0 ≤ x ∧ x < 72057594037927936) (hb : 0 ≤ b ∧ b ≤ 255) : Go.bits .or .u64 (IntKind.u64.wrap (x * 256)) (IntKind.u64.wrap b) = x * 256 + b := by
  rw [u64_wrap_id (by omega) (by omega), u64_wrap_id (by omega) (by omega)]
  have e1 : Go.bits .or .u64 (x * 256) b = IntKind.u64.wrap (((BitVec.ofInt 64 (x * 256)) ||| (BitVec.ofInt 64 b)).toNat : Int) := rfl
  rw [e1, BitVec.toNat_or, BitVec.toNat_ofInt, BitVec.toNat_ofInt, u64_wrap]
  have e2 : ((x * 256) % ((2 ^ 64 : Nat) : Int)).toNat = 2 ^ 8 * x.toNat := by omega
  have e3 : (b % ((2 ^ 64 : Nat) : Int)).toNat = b.toNat := by omega
  rw [e2, e3, ← Nat.two_pow_add_eq_or_of_lt (by omega)]
  omega
theorem num_app : ∀ (L : List Int) (b : Int), num (L ++ [b]) = num L * 256 + b
  | [], b => by simp [num]
  | x :: L, b => by
    simp only [List.cons_append, num, List.length_append, List.length_singleton, num_app L b, Int.pow_succ]
    rw [Int.add_mul, ← Int.mul_assoc]; omega
theorem pow8 {n : Nat} (h : n ≤ 7) : (256 : Int) ^ n ≤ 72057594037927936 := by
  have h1 : (256 : Nat) ^ n ≤ 256 ^ 7 := Nat.pow_le_pow_right (by decide) h
  have h2 : ((256 ^ n : Nat) : Int) = (256 : Int) ^ n := by simp
  omega
theorem number_ev (L : List Int) (hL : Bytes L) (hl : L.length ≤ 8) : Ev (fun k => code_number.f k (strOfNums L)) (num L) := by
  have go : ∀ (m i : Nat), i + m = L.length → Ev (fun k => code_number.l0 k (strOfNums L) (num (L.take i)) (L.length : Int) (i : Int)) (num L) := by
    intro m
    induction m with
    | zero =>
      intro i hi
      refine Ev.from_ 1 fun k => ?_
      simp only [code_number.l0]
      rw [if_neg (by omega), List.take_of_length_le (by omega)]
    | succ m ih =>
      intro i hi
      have hlt : i < L.length := by omega
      have hr := num_range (hL.take i)
      have hp := pow8 (n := (L.take i).length) (by rw [List.length_take]; omega)
      refine Ev.step (g := fun k => code_number.l0 k (strOfNums L) (num (L.take (i + 1))) (L.length : Int) ((i + 1 : Nat) : Int)) (fun k => ?_) (ih (i + 1) (by omega))
      simp only [code_number.l0]
      rw [if_pos (by omega), if_pos (by omega), if_pos (by rw [str_size]; omega), str_bt hL i hlt, or_low _ _ ⟨hr.1, by omega⟩ (hL _ (List.getElem_mem hlt)), wrap64_id (by omega) (by omega), ← num_app, List.take_append_getElem hlt]
      rfl
  have := go L.length 0 (by omega)
  simpa [code_number.f, str_size, num] using this
theorem number_ref_ev (L : List Int) (hL : Bytes L) (hl : L.length ≤ 8) : Ev (fun k => vellumref02_number.f k (strOfNums L)) (num L) := by
  have go : ∀ (m i : Nat), i + m = L.length → Ev (fun k => vellumref02_number.l0 k (strOfNums L) (num (L.take i)) (i : Int)) (num L) := by
    intro m
    induction m with
    | zero =>
      intro i hi
      refine Ev.from_ 1 fun k => ?_
      simp only [vellumref02_number.l0]
      rw [if_neg (by rw [str_size]; omega), List.take_of_length_le (by omega)]
    | succ m ih =>
      intro i hi
      have hlt : i < L.length := by omega
      have hr := num_range (hL.take i)
      have hp := pow8 (n := (L.take i).length) (by rw [List.length_take]; omega)
      refine Ev.step (g := fun k => vellumref02_number.l0 k (strOfNums L) (num (L.take (i + 1))) ((i + 1 : Nat) : Int)) (fun k => ?_) (ih (i + 1) (by omega))
      simp only [vellumref02_number.l0]
      rw [if_pos (by rw [str_size]; omega), if_pos (by omega), str_bt hL i hlt, or_low _ _ ⟨hr.1, by omega⟩ (hL _ (List.getElem_mem hlt)), wrap64_id (by omega) (by omega), ← num_app, List.take_append_getElem hlt]
      rfl
  have := go L.length 0 (by omega)
  simpa [vellumref02_number.f, num] using this
theorem take_f (L : List Int) (n : Nat) : code_take.f (strOfNums L) (n : Int) = some (if L.length < n then ((⟨#[]⟩ : ByteArray), (⟨#[]⟩ : ByteArray), false) else (strOfNums (L.take n), strOfNums (L.drop n), true)) := by
  unfold code_take.f
  rw [str_size]
  by_cases h : L.length < n
  · rw [if_pos (by omega), if_pos h]
  · rw [if_neg (by omega), if_neg h, if_pos (by omega), if_pos (by omega), str_drop', str_take]
    simp
end Go.Proofs.YtpiifdbicibelaaDoor.Pure
end
section
namespace Go.Proofs.YtpiifdbicibelaaDoor.Pure
open Go.RowKit Go.Proofs Go.Proofs.YtpiifdbicibelaaDoorW.PrintWords Go.Proofs.YtpiifdbicibelaaDoorW.PrintLast Go.Proofs.YtpiifdbicibelaaDoorW.PrintMore Go.Proofs.YtpiifdbicibelaaDoor.PA Go.Proofs.YtpiifdbicibelaaDoor.OpenK
set_option linter.unusedVariables false
set_option linter.unusedSimpArgs false
theorem xor_ones (n j : Nat) (h : n < 2 ^ j) : n ^^^ (2 ^ j - 1) = 2 ^ j - 1 - n := by
  apply Nat.eq_of_testBit_eq
  intro i
  have e : 2 ^ j - 1 - n = 2 ^ j - (n + 1) := by omega
  rw [e, Nat.testBit_xor, Nat.testBit_two_pow_sub_one, Nat.testBit_two_pow_sub_succ h]
  by_cases hi : i < j
  · simp [hi]
  · have : n.testBit i = false := Nat.testBit_lt_two_pow (Nat.lt_of_lt_of_le h (Nat.pow_le_pow_right (by decide) (by omega)))
    simp [hi, this]
theorem mask_shr (k : Nat) (h1 : 1 ≤ k) (h8 : k ≤ 8) : shr .u64 18446744073709551615 (64 - 8 * (k : Int)) = 256 ^ k - 1 := by
  obtain rfl | rfl | rfl | rfl | rfl | rfl | rfl | rfl : k = 1 ∨ k = 2 ∨ k = 3 ∨ k = 4 ∨ k = 5 ∨ k = 6 ∨ k = 7 ∨ k = 8 := by omega
  all_goals decide
theorem pow_nat (k : Nat) : (256 : Int) ^ k = ((2 ^ (8 * k) : Nat) : Int) := by
  rw [Nat.pow_mul]; simp
theorem xor_mask (n : Int) (k : Nat) (h0 : 0 ≤ n) (hn : n < 256 ^ k) (h1 : 1 ≤ k) (h8 : k ≤ 8) : Go.bits .xor .u64 n (shr .u64 18446744073709551615 (64 - 8 * (k : Int))) = 256 ^ k - 1 - n := by
  rw [mask_shr k h1 h8]
  have hp : (2 : Nat) ^ (8 * k) ≤ 2 ^ 64 := Nat.pow_le_pow_right (by decide) (by omega)
  rw [pow_nat] at hn ⊢
  have e1 : Go.bits .xor .u64 n (((2 ^ (8 * k) : Nat) : Int) - 1) = IntKind.u64.wrap (((BitVec.ofInt 64 n) ^^^ (BitVec.ofInt 64 (((2 ^ (8 * k) : Nat) : Int) - 1))).toNat : Int) := rfl
  rw [e1, BitVec.toNat_xor, BitVec.toNat_ofInt, BitVec.toNat_ofInt, u64_wrap]
  have h2 : (n % ((2 ^ 64 : Nat) : Int)).toNat = n.toNat := by omega
  have hpos : 0 < 2 ^ (8 * k) := Nat.pow_pos (by decide)
  have h3 : ((((2 ^ (8 * k) : Nat) : Int) - 1) % ((2 ^ 64 : Nat) : Int)).toNat = 2 ^ (8 * k) - 1 := by omega
  rw [h2, h3, xor_ones _ _ (by omega)]
  omega
theorem and_mask (t : Int) (k : Nat) (h0 : 0 ≤ t) (ht : t < 256 ^ k) (h1 : 1 ≤ k) (h8 : k ≤ 8) :
    Go.bits .and .u64 (not64 t) (IntKind.u64.wrap ((shl .u64 1 (IntKind.u64.wrap (8 * (k : Int)))) - 1)) = 256 ^ k - 1 - t := by
  have hp : (2 : Nat) ^ (8 * k) ≤ 2 ^ 64 := Nat.pow_le_pow_right (by decide) (by omega)
  have hpos : 0 < 2 ^ (8 * k) := Nat.pow_pos (by decide)
  have hm : IntKind.u64.wrap ((shl .u64 1 (IntKind.u64.wrap (8 * (k : Int)))) - 1) = (256 : Int) ^ k - 1 := by
    obtain rfl | rfl | rfl | rfl | rfl | rfl | rfl | rfl : k = 1 ∨ k = 2 ∨ k = 3 ∨ k = 4 ∨ k = 5 ∨ k = 6 ∨ k = 7 ∨ k = 8 := by omega
    all_goals decide
  rw [hm]
  rw [pow_nat] at ht ⊢
  rw [not64_eq t h0 (by omega)]
  have e1 : Go.bits .and .u64 (18446744073709551615 - t) (((2 ^ (8 * k) : Nat) : Int) - 1) = IntKind.u64.wrap (((BitVec.ofInt 64 (18446744073709551615 - t)) &&& (BitVec.ofInt 64 (((2 ^ (8 * k) : Nat) : Int) - 1))).toNat : Int) := rfl
  rw [e1, BitVec.toNat_and, BitVec.toNat_ofInt, BitVec.toNat_ofInt, u64_wrap]
  have h2 : ((18446744073709551615 - t) % ((2 ^ 64 : Nat) : Int)).toNat = 18446744073709551615 - t.toNat := by omega
  have h3 : ((((2 ^ (8 * k) : Nat) : Int) - 1) % ((2 ^ 64 : Nat) : Int)).toNat = 2 ^ (8 * k) - 1 := by omega
  rw [h2, h3, Nat.and_two_pow_sub_one_eq_mod]
  have h4 : (18446744073709551615 - t.toNat) % 2 ^ (8 * k) = 2 ^ (8 * k) - 1 - t.toNat := by
    have := top_mod (n := k) (u := t.toNat) h8 (by rw [Nat.pow_mul] at ht; have : (256 : Nat) ^ k = (2 ^ 8) ^ k := rfl; omega)
    have e : (256 : Nat) ^ k = 2 ^ (8 * k) := by rw [Nat.pow_mul]
    rwa [e] at this
  rw [h4]
  omega
/-- What stands behind an int's tag: the number that the bytes tell, whether it is below 0, and how many bytes. -/
def rawInt : List Int → Option (Int × Bool × Nat)
  | [] => none
  | h :: M => if 8 < (h - 128).natAbs ∨ M.length < (h - 128).natAbs then none
    else some (if h < 128 then 256 ^ (h - 128).natAbs - 1 - num (M.take (h - 128).natAbs) else num (M.take (h - 128).natAbs), decide (h < 128), (h - 128).natAbs)
def intOfRaw (m : Int) (b : Bool) : Int := if b then -m - 1 else m
def fitsRaw (m : Int) (b : Bool) (k : Nat) : Bool := decide (nb m.toNat = k) || (b && decide (m = 0) && decide (k = 1))
theorem raw_range {L : List Int} (hL : Bytes L) {m : Int} {b : Bool} {k : Nat} (h : rawInt L = some (m, b, k)) : 0 ≤ m ∧ m < 256 ^ k ∧ k ≤ 8 ∧ k + 1 ≤ L.length ∧ (b = true → 1 ≤ k) := by
  cases L with
  | nil => cases h
  | cons x M =>
    simp only [rawInt] at h
    split at h
    · cases h
    · rename_i hk
      simp only [Option.some.injEq, Prod.mk.injEq] at h
      obtain ⟨rfl, rfl, rfl⟩ := h
      have hr := num_range (hL.tail.take (x - 128).natAbs)
      have hl : (M.take (x - 128).natAbs).length = (x - 128).natAbs := by rw [List.length_take]; omega
      rw [hl] at hr
      have hb : decide (x < 128) = true → 1 ≤ (x - 128).natAbs := fun h => by have := of_decide_eq_true h; omega
      refine ⟨?_, ?_, by omega, by simp; omega, hb⟩
      · split <;> omega
      · split <;> omega
theorem raw_sound {L : List Int} (hL : Bytes L) {m : Int} {b : Bool} {k : Nat} (h : rawInt L = some (m, b, k)) (hf : fitsRaw m b k = true) (hm : m ≤ 9223372036854775807) :
    (Lit.int .i64 (intOfRaw m b)).wf = true ∧ L = codeInt (intOfRaw m b) ++ L.drop (k + 1) := by
  have hr := raw_range hL h
  have hwf : (Lit.int .i64 (intOfRaw m b)).wf = true := by
    have : -9223372036854775808 ≤ intOfRaw m b ∧ intOfRaw m b ≤ 9223372036854775807 := by unfold intOfRaw; split <;> omega
    simpa [Lit.wf, IntKind.min, IntKind.max, IntKind.signed, IntKind.bits] using this
  refine ⟨hwf, ?_⟩
  cases L with
  | nil => cases h
  | cons x M =>
    have hx := hL x (by simp)
    simp only [rawInt] at h
    split at h
    · cases h
    · rename_i hk
      simp only [Option.some.injEq, Prod.mk.injEq] at h
      obtain ⟨h1, h2, h3⟩ := h
      have hl : (M.take k).length = k := by rw [List.length_take]; omega
      have hbn := be_num (hL.tail.take k)
      have hn := num_range (hL.tail.take k)
      rw [hl] at hbn hn
      rw [h3] at h1
      cases b with
      | true =>
        have hx2 : x < 128 := of_decide_eq_true h2
        rw [if_pos hx2] at h1
        have em : intOfRaw m true = -m - 1 := rfl
        have eq1 : (-(-m - 1 + 1)).toNat = m.toNat := by omega
        have hkk : max (nb m.toNat) 1 = k := by
          unfold fitsRaw at hf
          simp at hf
          have hk1 := hr.2.2.2.2 rfl
          rcases hf with hf | ⟨hf1, hf2⟩
          · omega
          · subst hf1 hf2
            have hz : nb 0 = 0 := by unfold nb; simp
            show max (nb 0) 1 = 1
            rw [hz]; rfl
        rw [em]
        unfold codeInt
        rw [if_neg (by omega), eq1, hkk]
        have e3 : (128 - (k : Int)) = x := by omega
        have e4 : be (18446744073709551615 - -(-m - 1 + 1)) k = M.take k := by
          rw [← hbn]
          have e5 : 18446744073709551615 - -(-m - 1 + 1) = num (M.take k) + (18446744073709551616 / 256 ^ k - 1) * 256 ^ k := by
            have hdiv : (18446744073709551616 : Int) / 256 ^ k * 256 ^ k = 18446744073709551616 := by
              obtain rfl | rfl | rfl | rfl | rfl | rfl | rfl | rfl : k = 1 ∨ k = 2 ∨ k = 3 ∨ k = 4 ∨ k = 5 ∨ k = 6 ∨ k = 7 ∨ k = 8 := by omega
              all_goals decide
            rw [Int.sub_mul, hdiv]
            omega
          rw [e5]
          have hall : ∀ (n : Nat) (u c : Int), n ≤ k → be (u + c * 256 ^ k) n = be u n := by
            intro n
            induction n with
            | zero => intro u c _; rfl
            | succ n ih =>
              intro u c hn
              simp only [be]
              rw [ih u c (by omega)]
              congr 1
              have e6 : c * 256 ^ k = (c * 256 ^ (k - n - 1) * 256) * 256 ^ n := by
                rw [Int.mul_assoc (c * 256 ^ (k - n - 1)), ← Int.pow_succ', Int.mul_assoc, ← Int.pow_add]
                congr 2; omega
              rw [e6, Int.add_mul_ediv_right _ _ (by have := pow_pos n; omega)]
              omega
          exact hall k _ _ (Nat.le_refl _)
        rw [e4]
        simp only [List.drop_succ_cons, List.cons_append, List.take_append_drop]
        congr 1
        omega
      | false =>
        have hx2 : ¬ x < 128 := of_decide_eq_false h2
        rw [if_neg hx2] at h1
        have em : intOfRaw m false = m := rfl
        have hkk : nb m.toNat = k := by
          unfold fitsRaw at hf
          simpa using hf
        rw [em]
        unfold codeInt
        rw [if_pos hr.1, hkk, ← h1, hbn]
        simp only [List.drop_succ_cons, List.cons_append, List.take_append_drop]
        congr 1
        omega
theorem raw_complete {n : Int} (hn : (Lit.int .i64 n).wf = true) (R : List Int) : ∃ m k, rawInt (codeInt n ++ R) = some (m, decide (n < 0), k) ∧ intOfRaw m (decide (n < 0)) = n ∧ fitsRaw m (decide (n < 0)) k = true ∧ m ≤ 9223372036854775807 ∧ (codeInt n).length = k + 1 := by
  obtain ⟨h0, h1⟩ := isInt_range hn
  by_cases hp : 0 ≤ n
  · have hd : decide (n < 0) = false := decide_eq_false (by omega)
    rw [hd]
    have hk := nb_le 8 n.toNat (by omega)
    have hs := nb_spec n.toNat
    refine ⟨n, nb n.toNat, ?_, rfl, by simp [fitsRaw], h1, by unfold codeInt; rw [if_pos hp]; simp [be_length]⟩
    unfold codeInt
    rw [if_pos hp]
    have e1 : (128 + (nb n.toNat : Int) - 128).natAbs = nb n.toNat := by omega
    have e2 : (be n (nb n.toNat) ++ R).take (nb n.toNat) = be n (nb n.toNat) := by
      rw [List.take_append_of_le_length (by rw [be_length]; omega), List.take_of_length_le (by rw [be_length]; omega)]
    simp only [List.cons_append, rawInt, e1, e2]
    rw [if_neg (by simp [be_length]; omega), if_neg (by omega), num_be n hp]
    have e3 : n % 256 ^ nb n.toNat = n := by
      refine Int.emod_eq_of_lt hp ?_
      have : ((256 ^ nb n.toNat : Nat) : Int) = (256 : Int) ^ nb n.toNat := by simp
      omega
    rw [e3, decide_eq_false (p := (128 + (nb n.toNat : Int)) < 128) (by omega)]
  · have hd : decide (n < 0) = true := decide_eq_true (by omega)
    rw [hd]
    have hk := nb_le 8 (-(n + 1)).toNat (by omega)
    have hs := nb_spec (-(n + 1)).toNat
    generalize hu : (-(n + 1)).toNat = u at *
    have hun : (u : Int) = -(n + 1) := by omega
    generalize hkk : max (nb u) 1 = k at *
    have hk8 : k ≤ 8 := by omega
    have hk1 : 1 ≤ k := by omega
    have huk : u < 256 ^ k := Nat.lt_of_lt_of_le hs (Nat.pow_le_pow_right (by decide) (by omega))
    refine ⟨-(n + 1), k, ?_, by simp [intOfRaw], ?_, by omega, by unfold codeInt; rw [if_neg hp, hu, hkk]; simp [be_length]⟩
    · unfold codeInt
      rw [if_neg hp, hu, hkk]
      have e1 : (128 - (k : Int) - 128).natAbs = k := by omega
      have e2 : (be (18446744073709551615 - -(n + 1)) k ++ R).take k = be (18446744073709551615 - -(n + 1)) k := by
        rw [List.take_append_of_le_length (by rw [be_length]; omega), List.take_of_length_le (by rw [be_length]; omega)]
      simp only [List.cons_append, rawInt, e1, e2]
      rw [if_neg (by simp [be_length]; omega), if_pos (by omega), num_be _ (by omega)]
      have e3 : (18446744073709551615 - -(n + 1)) % 256 ^ k = 256 ^ k - 1 - -(n + 1) := by
        have ht := top_mod (n := k) (u := u) hk8 huk
        have hpw : ((256 ^ k : Nat) : Int) = (256 : Int) ^ k := by simp
        have hle : (256 : Nat) ^ k ≤ 256 ^ 8 := Nat.pow_le_pow_right (by decide) hk8
        have hc : (18446744073709551615 - -(n + 1)) = ((18446744073709551615 - u : Nat) : Int) := by omega
        rw [hc, ← hpw, ← Int.natCast_emod, ht]
        omega
      rw [e3, decide_eq_true (p := (128 - (k : Int)) < 128) (by omega)]
      have e4 : (256 : Int) ^ k - 1 - (256 ^ k - 1 - -(n + 1)) = -(n + 1) := by omega
      rw [e4]
    · unfold fitsRaw
      have : (-(n + 1)).toNat = u := hu
      rw [this]
      simp
      by_cases hz : u = 0
      · right; subst hz
        have : nb 0 = 0 := by unfold nb; simp
        omega
      · left; have := nb_pos hz; omega
def zeroG : Int × Int × Nat × ByteArray × ByteArray × Bool := (0, 0, 0, (⟨#[]⟩ : ByteArray), (⟨#[]⟩ : ByteArray), false)
/-- What getInt tells of some bytes. -/
def gotInt (L : List Int) : Int × Int × Nat × ByteArray × ByteArray × Bool :=
  match rawInt L with
  | none => zeroG
  | some (m, b, k) => if fitsRaw m b k = true ∧ m ≤ 9223372036854775807 then (2, intOfRaw m b, 0, (⟨#[]⟩ : ByteArray), strOfNums (L.drop (k + 1)), true) else zeroG
theorem getInt_ev (L : List Int) (hL : Bytes L) : Ev (fun k => code_getInt.f k (strOfNums L)) (gotInt L) := by
  have z64 : ∀ {x : Int}, -1000 ≤ x → x ≤ 1000 → wrap64 x = x := fun h1 h2 => wrap64_id (by omega) (by omega)
  simp only [code_getInt.f]
  have ht' : code_take.f (strOfNums L) 1 = some (if L.length < 1 then ((⟨#[]⟩ : ByteArray), (⟨#[]⟩ : ByteArray), false) else (strOfNums (L.take 1), strOfNums (L.drop 1), true)) := take_f L 1
  cases L with
  | nil =>
    refine Ev.bind (Ev.const ht') ?_
    refine Ev.neg (by simp) ?_
    exact Ev.pure
  | cons h M =>
    have hh := hL h (by simp)
    have hM : Bytes M := hL.tail
    rw [if_neg (by simp)] at ht'
    refine Ev.bind (Ev.const ht') ?_
    have hb : bt (strOfNums [h]) 0 = h := str_bt (L := [h]) (fun x hx => by simp at hx; subst hx; exact hh) 0 (by simp)
    refine Ev.pos rfl ?_
    show Ev (fun k => if 0 < ((strOfNums [h]).size : Int) then _ else none) _
    refine Ev.pos (by rw [str_size]; simp) ?_
    have e1 : wrap64 (wrap64 h - 128) = h - 128 := by rw [z64 (x := h) (by omega) (by omega), z64 (by omega) (by omega)]
    have e2 : wrap64 (-(h - 128)) = -(h - 128) := z64 (by omega) (by omega)
    simp only [List.take_succ_cons, List.take_zero, List.drop_succ_cons, List.drop_zero, hb, e1, e2]
    unfold gotInt
    simp only [rawInt]
    by_cases hneg : h < 128
    · refine Ev.pos (by omega) ?_
      obtain ⟨k, hk⟩ : ∃ k : Nat, (k : Int) = -(h - 128) := ⟨(128 - h).toNat, by omega⟩
      have hka : (h - 128).natAbs = k := by omega
      rw [← hk, hka]
      by_cases h8 : (k : Int) > 8
      · refine Ev.pos h8 ?_
        rw [if_pos (.inl (by omega))]
        exact Ev.pure
      refine Ev.neg h8 (Ev.bind (Ev.const (take_f M k)) ?_)
      by_cases hlen : M.length < k
      · rw [if_pos hlen, if_pos (.inr hlen)]
        exact Ev.neg (by simp) Ev.pure
      rw [if_neg hlen, if_neg (by omega)]
      have hl : (M.take k).length = k := by rw [List.length_take]; omega
      have hn := num_range (hM.take k)
      rw [hl] at hn
      refine Ev.pos rfl (Ev.bind (number_ev (M.take k) (hM.take k) (by omega)) ?_)
      have e3 : wrap64 (64 - wrap64 (8 * (k : Int))) = 64 - 8 * (k : Int) := by rw [z64 (x := 8 * (k : Int)) (by omega) (by omega), z64 (by omega) (by omega)]
      simp only [e3, xor_mask (num (M.take k)) k hn.1 hn.2 (by omega) (by omega)]
      refine Ev.pos (by omega) ?_
      rw [if_pos hneg, decide_eq_true hneg]
      generalize hmm : (256 : Int) ^ k - 1 - num (M.take k) = m
      have hm0 : 0 ≤ m := by omega
      have hpk : (256 : Int) ^ k ≤ 18446744073709551616 := by
        have h1 : (256 : Nat) ^ k ≤ 256 ^ 8 := Nat.pow_le_pow_right (by decide) (by omega)
        have h2 : ((256 ^ k : Nat) : Int) = (256 : Int) ^ k := by simp
        omega
      have hsz := size_code m.toNat (by omega)
      have hmc : ((m.toNat : Nat) : Int) = m := by omega
      rw [hmc] at hsz
      refine Ev.bind (Ev.const hsz) ?_
      have fin : ∀ (hf : fitsRaw m true k = true), Ev (fun kk => if m > 9223372036854775807 then some zeroG else some (2, wrap64 (wrap64 (-(wrap64 m)) - 1), 0, (⟨#[]⟩ : ByteArray), strOfNums (M.drop k), true))
          (if fitsRaw m true k = true ∧ m ≤ 9223372036854775807 then (2, intOfRaw m true, 0, (⟨#[]⟩ : ByteArray), strOfNums (M.drop k), true) else zeroG) := by
        intro hf
        by_cases hbig : m > 9223372036854775807
        · refine Ev.pos hbig ?_
          rw [if_neg (by omega)]
          exact Ev.pure
        · refine Ev.neg hbig ?_
          rw [if_pos ⟨hf, by omega⟩]
          rw [wrap64_id (n := m) (by omega) (by omega), wrap64_id (n := -m) (by omega) (by omega), wrap64_id (by omega) (by omega)]
          exact Ev.pure
      by_cases hs : (nb m.toNat : Int) = (k : Int)
      · exact Ev.pos hs (fin (by unfold fitsRaw; simp; left; omega))
      · refine Ev.neg hs ?_
        by_cases hz : m = 0
        · refine Ev.pos hz ?_
          by_cases hk1 : (k : Int) = 1
          · exact Ev.pos hk1 (fin (by unfold fitsRaw; simp [hz]; right; omega))
          · refine Ev.neg hk1 ?_
            rw [if_neg]
            · exact Ev.pure
            · rintro ⟨hf, _⟩
              unfold fitsRaw at hf
              simp [hz] at hf
              rw [hz] at hs
              rcases hf with hf | hf
              · exact hs (by simp; omega)
              · omega
        · refine Ev.neg hz ?_
          rw [if_neg]
          · exact Ev.pure
          · rintro ⟨hf, _⟩
            unfold fitsRaw at hf
            simp [hz] at hf
            omega
    · refine Ev.neg (by omega) ?_
      obtain ⟨k, hk⟩ : ∃ k : Nat, (k : Int) = h - 128 := ⟨(h - 128).toNat, by omega⟩
      have hka : (h - 128).natAbs = k := by omega
      rw [← hk]
      rw [hk, hka, ← hk]
      by_cases h8 : (k : Int) > 8
      · refine Ev.pos h8 ?_
        rw [if_pos (.inl (by omega))]
        exact Ev.pure
      refine Ev.neg h8 (Ev.bind (Ev.const (take_f M k)) ?_)
      by_cases hlen : M.length < k
      · rw [if_pos hlen, if_pos (.inr hlen)]
        exact Ev.neg (by simp) Ev.pure
      rw [if_neg hlen, if_neg (by omega)]
      have hl : (M.take k).length = k := by rw [List.length_take]; omega
      have hn := num_range (hM.take k)
      rw [hl] at hn
      refine Ev.pos rfl (Ev.bind (number_ev (M.take k) (hM.take k) (by omega)) ?_)
      rw [if_neg hneg, decide_eq_false hneg]
      generalize hmm : num (M.take k) = m at *
      have hpk : (256 : Int) ^ k ≤ 18446744073709551616 := by
        have h1 : (256 : Nat) ^ k ≤ 256 ^ 8 := Nat.pow_le_pow_right (by decide) (by omega)
        have h2 : ((256 ^ k : Nat) : Int) = (256 : Int) ^ k := by simp
        omega
      have hsz := size_code m.toNat (by omega)
      have hmc : ((m.toNat : Nat) : Int) = m := by omega
      rw [hmc] at hsz
      refine Ev.bind (Ev.const hsz) ?_
      by_cases hs : (nb m.toNat : Int) = (k : Int)
      · refine Ev.pos hs ?_
        have hf : fitsRaw m false k = true := by unfold fitsRaw; simp; omega
        show Ev _ (if fitsRaw m false k = true ∧ m ≤ 9223372036854775807 then (2, intOfRaw m false, 0, (⟨#[]⟩ : ByteArray), strOfNums (M.drop k), true) else zeroG)
        by_cases hbig : m > 9223372036854775807
        · refine Ev.pos hbig ?_
          rw [if_neg (by omega)]
          exact Ev.pure
        · refine Ev.neg hbig ?_
          rw [if_pos ⟨hf, by omega⟩]
          rw [wrap64_id (n := m) (by omega) (by omega)]
          exact Ev.pure
      · refine Ev.neg hs ?_
        show Ev _ (if fitsRaw m false k = true ∧ m ≤ 9223372036854775807 then (2, intOfRaw m false, 0, (⟨#[]⟩ : ByteArray), strOfNums (M.drop k), true) else zeroG)
        rw [if_neg]
        · exact Ev.pure
        · rintro ⟨hf, _⟩
          unfold fitsRaw at hf
          simp at hf
          omega
end Go.Proofs.YtpiifdbicibelaaDoor.Pure
end
section
namespace Go.Proofs.YtpiifdbicibelaaDoor.Pure
open Go.RowKit Go.Proofs Go.Proofs.YtpiifdbicibelaaDoorW.PrintWords Go.Proofs.YtpiifdbicibelaaDoorW.PrintLast Go.Proofs.YtpiifdbicibelaaDoorW.PrintMore Go.Proofs.YtpiifdbicibelaaDoor.PA Go.Proofs.YtpiifdbicibelaaDoor.OpenK
set_option linter.unusedVariables false
set_option linter.unusedSimpArgs false
theorem toB_nat (u : List UInt8) : toB (u.map fun b => (b.toNat : Int)) = u := by
  simp [toB, List.map_map, Function.comp_def]
theorem text_complete : ∀ (u acc : List UInt8) (R : List Int), Tail R → Bytes R → textOff acc (toB (codeText u ++ R)) = some (acc ++ u, toB R)
  | [], acc, R, hT, hR => by
    show textOff acc (0 :: toB R) = _
    rw [textOff_zero]
    · simp
    · intro l' e
      cases R with
      | nil => simp [toB] at e
      | cons x R =>
        have h1 := hT x R rfl
        have h2 := hR x (by simp)
        simp only [toB, List.map_cons, List.cons.injEq] at e
        have e2 := congrArg UInt8.toNat e.1
        rw [ofNat_toNat h2] at e2
        have : (255 : UInt8).toNat = 255 := rfl
        omega
  | b :: u, acc, R, hT, hR => by
    have ih := fun acc => text_complete u acc R hT hR
    simp only [codeText]
    split
    · rename_i h0
      subst h0
      show textOff acc (0 :: 255 :: toB (codeText u ++ R)) = _
      rw [textOff, ih]
      simp
    · rename_i h0
      have : toB (((b.toNat : Int) :: codeText u) ++ R) = b :: toB (codeText u ++ R) := by simp [toB]
      rw [this, textOff_ne h0, ih]
      simp
theorem text_sound : ∀ (n : Nat) (l acc t r : List UInt8), l.length ≤ n → textOff acc l = some (t, r) → ∃ u, t = acc ++ u ∧ (l.map fun b => (b.toNat : Int)) = codeText u ++ (r.map fun b => (b.toNat : Int))
  | _, [], acc, t, r, _, h => by simp [textOff] at h
  | 0, b :: l, acc, t, r, hn, _ => by simp at hn
  | n + 1, b :: l, acc, t, r, hn, h => by
    by_cases h0 : b = 0
    · subst h0
      by_cases h2 : ∃ l', l = 255 :: l'
      · obtain ⟨l', rfl⟩ := h2
        rw [textOff] at h
        obtain ⟨u, rfl, hu⟩ := text_sound n l' _ t r (by simp at hn; omega) h
        refine ⟨0 :: u, by simp, ?_⟩
        simp only [List.map_cons, codeText, if_pos, List.cons_append]
        rw [hu]; rfl
      · rw [textOff_zero (fun l' e => h2 ⟨l', e⟩)] at h
        simp only [Option.some.injEq, Prod.mk.injEq] at h
        obtain ⟨rfl, rfl⟩ := h
        exact ⟨[], by simp, by simp [codeText]⟩
    · rw [textOff_ne h0] at h
      obtain ⟨u, rfl, hu⟩ := text_sound n l _ t r (by simp at hn; omega) h
      refine ⟨b :: u, by simp, ?_⟩
      simp only [List.map_cons, codeText, if_neg h0, List.cons_append]
      rw [hu]
theorem nat_toB {L : List Int} (h : Bytes L) : ((toB L).map fun b => (b.toNat : Int)) = L := by
  induction L with
  | nil => rfl
  | cons x L ih =>
    have hx := h x (by simp)
    simp only [toB, List.map_cons] at ih ⊢
    rw [ih h.tail, ofNat_toNat hx]
    congr 1
    omega
theorem str_toB (L : List Int) : (⟨(toB L).toArray⟩ : ByteArray) = strOfNums L := by
  apply Go.WideShapes.bytes_inj
  rw [strOfNums_data]
theorem xor_down (x : Int) (h0 : 9223372036854775808 ≤ x) (h1 : x < 18446744073709551616) : Go.bits .xor .u64 x 9223372036854775808 = x - 9223372036854775808 := by
  have h := xor_top (x - 9223372036854775808) (by omega) (by omega)
  have e1 : ∀ y : Int, Go.bits .xor .u64 y 9223372036854775808 = IntKind.u64.wrap (((BitVec.ofInt 64 y) ^^^ (BitVec.ofInt 64 9223372036854775808)).toNat : Int) := fun _ => rfl
  rw [e1] at h ⊢
  have hlt := ((BitVec.ofInt 64 (x - 9223372036854775808)) ^^^ (BitVec.ofInt 64 9223372036854775808)).isLt
  rw [u64_wrap_id (by omega) (by omega)] at h
  have hX : BitVec.ofInt 64 x = (BitVec.ofInt 64 (x - 9223372036854775808)) ^^^ (BitVec.ofInt 64 9223372036854775808) := by
    apply BitVec.eq_of_toNat_eq
    rw [BitVec.toNat_ofInt]
    omega
  rw [hX, BitVec.xor_assoc, BitVec.xor_self, BitVec.xor_zero, BitVec.toNat_ofInt, u64_wrap]
  omega
/-- The float that eight bytes tell. -/
def floatOf (w : List Int) : Nat := if 9223372036854775808 ≤ num w then (num w - 9223372036854775808).toNat else (18446744073709551615 - num w).toNat
theorem floatOf_lt {w : List Int} (hw : Bytes w) (h8 : w.length = 8) : floatOf w < 18446744073709551616 := by
  have := num_range hw
  rw [h8] at this
  have e : (256 : Int) ^ 8 = 18446744073709551616 := by decide
  unfold floatOf
  split <;> omega
theorem floatOf_code {w : List Int} (hw : Bytes w) (h8 : w.length = 8) : codeBits (floatOf w) = w := by
  have hr := num_range hw
  have hb := be_num hw
  rw [h8] at hr hb
  have e : (256 : Int) ^ 8 = 18446744073709551616 := by decide
  unfold floatOf codeBits
  split
  · rw [if_pos (by omega)]
    have : (((num w - 9223372036854775808).toNat : Nat) : Int) + 9223372036854775808 = num w := by omega
    rw [this, hb]
  · rw [if_neg (by omega)]
    have : 18446744073709551615 - (((18446744073709551615 - num w).toNat : Nat) : Int) = num w := by omega
    rw [this, hb]
theorem codeBits_float {c : Nat} (hc : c < 18446744073709551616) : floatOf (codeBits c) = c := by
  have e : (256 : Int) ^ 8 = 18446744073709551616 := by decide
  unfold codeBits
  split
  · rename_i h
    have : num (be ((c : Int) + 9223372036854775808) 8) = (c : Int) + 9223372036854775808 := by rw [num_be _ (by omega), e]; omega
    unfold floatOf
    rw [this, if_pos (by omega)]; omega
  · rename_i h
    have : num (be (18446744073709551615 - (c : Int)) 8) = 18446744073709551615 - (c : Int) := by rw [num_be _ (by omega), e]; omega
    unfold floatOf
    rw [this, if_neg (by omega)]; omega
/-- What getFloat tells of some bytes. -/
def gotFloat (L : List Int) : Int × Int × Nat × ByteArray × ByteArray × Bool :=
  if L.length < 8 then zeroG else (3, 0, floatOf (L.take 8), (⟨#[]⟩ : ByteArray), strOfNums (L.drop 8), plainF (floatOf (L.take 8)) == floatOf (L.take 8))
theorem getFloat_ev (L : List Int) (hL : Bytes L) : Ev (fun k => code_getFloat.f k (strOfNums L)) (gotFloat L) := by
  simp only [code_getFloat.f]
  refine Ev.bind (Ev.const (show code_take.f (strOfNums L) 8 = _ from take_f L 8)) ?_
  unfold gotFloat
  by_cases h : L.length < 8
  · rw [if_pos h, if_pos h]
    exact Ev.neg (by simp) Ev.pure
  · rw [if_neg h, if_neg h]
    have hl : (L.take 8).length = 8 := by rw [List.length_take]; omega
    have hr := num_range (hL.take 8)
    rw [hl] at hr
    have e : (256 : Int) ^ 8 = 18446744073709551616 := by decide
    refine Ev.pos rfl (Ev.bind (number_ev (L.take 8) (hL.take 8) (by omega)) ?_)
    have cast_eq : ∀ (a b : Nat) (c : Int), c = b → (((a : Nat) : Int) == c) = (a == b) := by
      intro a b c hc
      subst hc
      rw [Bool.eq_iff_iff, beq_iff_eq, beq_iff_eq]; omega
    by_cases h1 : 9223372036854775808 ≤ num (L.take 8)
    · refine Ev.pos (by omega) ?_
      rw [xor_down _ h1 (by omega)]
      have ef : floatOf (L.take 8) = (num (L.take 8) - 9223372036854775808).toNat := by unfold floatOf; rw [if_pos h1]
      rw [← ef]
      refine Ev.bind (v := (3, 0, plainF (floatOf (L.take 8)), (⟨#[]⟩ : ByteArray))) (Ev.from_ 1 fun k => by rw [plain_ev, if_pos rfl]) ?_
      rw [cast_eq _ (floatOf (L.take 8)) _ (by omega)]
      exact Ev.pure
    · refine Ev.neg (by omega) ?_
      rw [not64_eq _ (by omega) (by omega)]
      have ef : floatOf (L.take 8) = (18446744073709551615 - num (L.take 8)).toNat := by unfold floatOf; rw [if_neg h1]
      rw [← ef]
      refine Ev.bind (v := (3, 0, plainF (floatOf (L.take 8)), (⟨#[]⟩ : ByteArray))) (Ev.from_ 1 fun k => by rw [plain_ev, if_pos rfl]) ?_
      rw [cast_eq _ (floatOf (L.take 8)) _ (by omega)]
      exact Ev.pure
/-- A value that a key tells: it may be, and a float is the one that stands for all that are the same. -/
structure Told (v : S50) : Prop where
  ok : chkV v = 0
  wf : wf50 v
  plain : v.f0 = 3 → plainF v.f2 = v.f2
def tup (v : S50) (R : List Int) : Int × Int × Nat × ByteArray × ByteArray × Bool := (v.f0, v.f1, v.f2, v.f3, strOfNums R, true)
/-- What get tells of some bytes. -/
def gotText (tag : Int) (M : List Int) : Int × Int × Nat × ByteArray × ByteArray × Bool :=
  match textOff [] (toB M) with
  | none => (tag - 1, 0, 0, (⟨#[]⟩ : ByteArray), (⟨#[]⟩ : ByteArray), false)
  | some (t, r) => (tag - 1, 0, 0, ⟨t.toArray⟩, ⟨r.toArray⟩, chk (tag - 1) 0 0 ⟨t.toArray⟩ == 0)
def got : List Int → Int × Int × Nat × ByteArray × ByteArray × Bool
  | [] => zeroG
  | t :: M =>
    if t = 1 then (0, 0, 0, (⟨#[]⟩ : ByteArray), strOfNums M, true)
    else if t = 2 then (match M with | [] => zeroG | b :: M' => if b > 1 then zeroG else (1, b, 0, (⟨#[]⟩ : ByteArray), strOfNums M', true))
    else if t = 3 then gotInt M
    else if t = 4 then gotFloat M
    else if t = 5 ∨ t = 6 then gotText t M
    else zeroG
theorem textOff_len : ∀ (n : Nat) (l acc t r : List UInt8), l.length ≤ n → textOff acc l = some (t, r) → t.length ≤ acc.length + l.length ∧ r.length ≤ l.length
  | _, [], acc, t, r, _, h => by simp [textOff] at h
  | 0, b :: l, acc, t, r, hn, _ => by simp at hn
  | n + 1, b :: l, acc, t, r, hn, h => by
    by_cases h0 : b = 0
    · subst h0
      by_cases h2 : ∃ l', l = 255 :: l'
      · obtain ⟨l', rfl⟩ := h2
        rw [textOff] at h
        have := textOff_len n l' _ t r (by simp at hn; omega) h
        simp at this ⊢; omega
      · rw [textOff_zero (fun l' e => h2 ⟨l', e⟩)] at h
        simp only [Option.some.injEq, Prod.mk.injEq] at h
        obtain ⟨rfl, rfl⟩ := h
        simp
    · rw [textOff_ne h0] at h
      have := textOff_len n l _ t r (by simp at hn; omega) h
      simp at this ⊢; omega
theorem get_ev (L : List Int) (hL : Bytes L) (hne : L ≠ []) (hlen : L.length ≤ 1000000) : Ev (fun k => code_get.f k (strOfNums L)) (got L) := by
  cases L with
  | nil => exact absurd rfl hne
  | cons t M =>
    have hM := hL.tail
    have ht := hL t (by simp)
    have hb0 : bt (strOfNums (t :: M)) 0 = t := str_bt hL 0 (by simp)
    have hx : (strOfNums (t :: M)).extract 1 (strOfNums (t :: M)).size = strOfNums M := by rw [str_drop]; rfl
    have hsz : 1 ≤ ((strOfNums (t :: M)).size : Int) := by rw [str_size]; simp only [List.length_cons]; omega
    simp only [code_get.f, hb0, hx]
    refine Ev.pos (by omega) (Ev.pos hsz ?_)
    simp only [got]
    by_cases h1 : t = 1
    · rw [if_pos h1]; exact Ev.pos h1 Ev.pure
    rw [if_neg h1]
    refine Ev.neg h1 ?_
    by_cases h2 : t = 2
    · rw [if_pos h2]
      refine Ev.pos h2 (Ev.bind (Ev.const (show code_take.f (strOfNums M) 1 = _ from take_f M 1)) ?_)
      cases M with
      | nil => exact Ev.neg (by simp) Ev.pure
      | cons b M' =>
        have hb := hM b (by simp)
        rw [if_neg (show ¬ ((b :: M').length < 1) by simp)]
        have hbb : bt (strOfNums [b]) 0 = b := str_bt (L := [b]) (fun x hx => by simp at hx; subst hx; exact hb) 0 (by simp)
        refine Ev.pos rfl ?_
        show Ev (fun k => if 0 < ((strOfNums [b]).size : Int) then (if bt (strOfNums [b]) 0 > 1 then some zeroG else some (1, wrap64 (bt (strOfNums [b]) 0), 0, (⟨#[]⟩ : ByteArray), strOfNums M', true)) else none) (if b > 1 then zeroG else (1, b, 0, (⟨#[]⟩ : ByteArray), strOfNums M', true))
        refine Ev.pos (by rw [str_size]; simp) ?_
        rw [hbb, wrap64_id (by omega) (by omega)]
        by_cases h3 : b > 1
        · rw [if_pos h3, if_pos h3]; exact Ev.pure
        · rw [if_neg h3, if_neg h3]; exact Ev.pure
    rw [if_neg h2]
    refine Ev.neg h2 ?_
    by_cases h3 : t = 3
    · rw [if_pos h3]
      refine Ev.pos h3 (Ev.bind (getInt_ev M hM) ?_)
      exact Ev.pure
    rw [if_neg h3]
    refine Ev.neg h3 ?_
    by_cases h4 : t = 4
    · rw [if_pos h4]
      refine Ev.pos h4 (Ev.bind (getFloat_ev M hM) ?_)
      exact Ev.pure
    rw [if_neg h4]
    refine Ev.neg h4 ?_
    have hgs : code_getString.f (strOfNums M) = some (match textOff [] (toB M) with | some (t, l) => (⟨t.toArray⟩, ⟨l.toArray⟩, true) | none => ((⟨#[]⟩ : ByteArray), (⟨#[]⟩ : ByteArray), false)) := by
      unfold code_getString.f
      rw [if_pos (by rw [str_size]; simp at hlen; omega), strOfNums_data]
      all_goals (cases textOff [] (toB M) <;> rfl)
    have hj : ∀ (tag : Int), tag = 5 ∨ tag = 6 → Ev (fun k => code_get.j0 k (strOfNums M) tag true) (gotText tag M) := by
      intro tag htag
      refine Ev.step (g := fun k => (code_getString.f (strOfNums M)).bind fun bt493 => (if tag = 6 then (if bt493.2.2 = true then ((value_Check.f k 5 0 0 bt493.1).bind fun t497 => (some (5, 0, 0, bt493.1, bt493.2.1, (t497 == 0)))) else (some (5, 0, 0, bt493.1, bt493.2.1, false))) else (if bt493.2.2 = true then ((value_Check.f k 4 0 0 bt493.1).bind fun t498 => (some (4, 0, 0, bt493.1, bt493.2.1, (t498 == 0)))) else (some (4, 0, 0, bt493.1, bt493.2.1, false))))) (fun k => ?_) ?_
      · simp only [code_get.j0]
        rw [if_pos trivial]
      · refine Ev.bind (Ev.const hgs) ?_
        unfold gotText
        cases hto : textOff [] (toB M) with
        | none =>
          rcases htag with rfl | rfl
          · exact Ev.neg (by decide) (Ev.neg (by simp) Ev.pure)
          · exact Ev.pos rfl (Ev.neg (by simp) Ev.pure)
        | some tr =>
          obtain ⟨t', r'⟩ := tr
          have hl := textOff_len (toB M).length (toB M) [] t' r' (Nat.le_refl _) hto
          have hs : (⟨t'.toArray⟩ : ByteArray).size ≤ 140737488351232 := by
            show t'.toArray.size ≤ _
            simp [toB] at hl hlen ⊢; omega
          rcases htag with rfl | rfl
          · exact Ev.neg (by decide) (Ev.pos rfl (Ev.bind (Ev.from_ 6 fun k => check_code k _ _ _ _ hs) Ev.pure))
          · exact Ev.pos rfl (Ev.pos rfl (Ev.bind (Ev.from_ 6 fun k => check_code k _ _ _ _ hs) Ev.pure))
    by_cases h5 : t = 5
    · rw [if_pos (.inl h5)]
      refine Ev.pos h5 ?_
      have e : (t == 5) = true := by simp [h5]
      rw [e]
      exact hj t (.inl h5)
    refine Ev.neg h5 ?_
    by_cases h6 : t = 6
    · rw [if_pos (.inr h6)]
      have e : (t == 6) = true := by simp [h6]
      rw [e]
      exact hj t (.inr h6)
    · rw [if_neg (by omega)]
      have e : (t == 6) = false := by simp [h6]
      rw [e]
      refine Ev.from_ 1 fun k => ?_
      simp only [code_get.j0]
      rw [if_neg (by decide)]
      rfl
end Go.Proofs.YtpiifdbicibelaaDoor.Pure
end
