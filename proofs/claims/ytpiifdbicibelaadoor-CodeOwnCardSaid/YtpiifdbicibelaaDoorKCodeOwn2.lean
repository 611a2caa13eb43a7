/- Part 3 of what the proof of CodeOwn stands on: words for walks, printed functions with their contracts, plain laws. -/
import Derived.Test.YtpiifdbicibelaaDoorKCodeOwn1
section
namespace Go.Proofs.YtpiifdbicibelaaDoor.PA
open Go.RowKit Go.Proofs.YtpiifdbicibelaaDoorW.PrintWords Go.Proofs.YtpiifdbicibelaaDoorW.PrintLast Go.Proofs.YtpiifdbicibelaaDoorW.PrintMore
attribute [local go_sem] max2_int min2_int max_two min_two max_three min_three max_four min_four
set_option linter.unusedVariables false
set_option linter.unusedSimpArgs false
set_option maxHeartbeats 8000000 in
set_option maxRecDepth 100000 in
theorem code_getInt.calls (k : Nat) (a0 : ByteArray) (r1 : Int) (r2 : Int) (r3 : Nat) (r4 : ByteArray) (r5 : ByteArray) (r6 : Bool) (w : World) (h : code_getInt.f k a0 = some (r1, r2, r3, r4, r5, r6)) :
    Calls Tryd.prog 111 #[.string a0] w fun e w' => e = .returned (.tuple #[.agg #[.int .i64 r1, .int .i64 r2, .float .f64 r3, .string r4], .string r5, .bool r6]) ∧ Below w.heap.size w w' := by
  have hu50 := Tryd.underlying50
  have HB := am (Below.refl w.heap.size w)
  have H : ((code_take.f a0 1).bind fun bt449 => (if bt449.2.2 = true then (if 0 < (bt449.1.size : Int) then (if (wrap64 ((wrap64 (bt bt449.1 0)) - 128)) < 0 then (if (wrap64 (-(wrap64 ((wrap64 (bt bt449.1 0)) - 128)))) > 8 then (some (0, 0, 0, (⟨#[]⟩ : ByteArray), (⟨#[]⟩ : ByteArray), false)) else ((code_take.f bt449.2.1 (wrap64 (-(wrap64 ((wrap64 (bt bt449.1 0)) - 128))))).bind fun bt452 => (if bt452.2.2 = true then ((code_number.f k bt452.1).bind fun t455 => (if 0 ≤ (wrap64 (64 - (wrap64 (8 * (wrap64 (-(wrap64 ((wrap64 (bt bt449.1 0)) - 128)))))))) then ((code_size.f (Go.bits .xor .u64 t455 (shr .u64 18446744073709551615 (wrap64 (64 - (wrap64 (8 * (wrap64 (-(wrap64 ((wrap64 (bt bt449.1 0)) - 128))))))))))).bind fun t456 => (if t456 = (wrap64 (-(wrap64 ((wrap64 (bt bt449.1 0)) - 128)))) then (if (Go.bits .xor .u64 t455 (shr .u64 18446744073709551615 (wrap64 (64 - (wrap64 (8 * (wrap64 (-(wrap64 ((wrap64 (bt bt449.1 0)) - 128)))))))))) > 9223372036854775807 then (some (0, 0, 0, (⟨#[]⟩ : ByteArray), (⟨#[]⟩ : ByteArray), false)) else (some (2, wrap64 ((wrap64 (-(wrap64 (Go.bits .xor .u64 t455 (shr .u64 18446744073709551615 (wrap64 (64 - (wrap64 (8 * (wrap64 (-(wrap64 ((wrap64 (bt bt449.1 0)) - 128))))))))))))) - 1), 0, (⟨#[]⟩ : ByteArray), bt452.2.1, true))) else (if (Go.bits .xor .u64 t455 (shr .u64 18446744073709551615 (wrap64 (64 - (wrap64 (8 * (wrap64 (-(wrap64 ((wrap64 (bt bt449.1 0)) - 128)))))))))) = 0 then (if ((wrap64 (-(wrap64 ((wrap64 (bt bt449.1 0)) - 128)))) = 1) then (if (Go.bits .xor .u64 t455 (shr .u64 18446744073709551615 (wrap64 (64 - (wrap64 (8 * (wrap64 (-(wrap64 ((wrap64 (bt bt449.1 0)) - 128)))))))))) > 9223372036854775807 then (some (0, 0, 0, (⟨#[]⟩ : ByteArray), (⟨#[]⟩ : ByteArray), false)) else (some (2, wrap64 ((wrap64 (-(wrap64 (Go.bits .xor .u64 t455 (shr .u64 18446744073709551615 (wrap64 (64 - (wrap64 (8 * (wrap64 (-(wrap64 ((wrap64 (bt bt449.1 0)) - 128))))))))))))) - 1), 0, (⟨#[]⟩ : ByteArray), bt452.2.1, true))) else (some (0, 0, 0, (⟨#[]⟩ : ByteArray), (⟨#[]⟩ : ByteArray), false))) else (some (0, 0, 0, (⟨#[]⟩ : ByteArray), (⟨#[]⟩ : ByteArray), false))))) else (none))) else (some (0, 0, 0, (⟨#[]⟩ : ByteArray), (⟨#[]⟩ : ByteArray), false))))) else (if (wrap64 ((wrap64 (bt bt449.1 0)) - 128)) > 8 then (some (0, 0, 0, (⟨#[]⟩ : ByteArray), (⟨#[]⟩ : ByteArray), false)) else ((code_take.f bt449.2.1 (wrap64 ((wrap64 (bt bt449.1 0)) - 128))).bind fun bt457 => (if bt457.2.2 = true then ((code_number.f k bt457.1).bind fun t460 => ((code_size.f t460).bind fun t461 => (if t461 = (wrap64 ((wrap64 (bt bt449.1 0)) - 128)) then (if t460 > 9223372036854775807 then (some (0, 0, 0, (⟨#[]⟩ : ByteArray), (⟨#[]⟩ : ByteArray), false)) else (some (2, wrap64 (t460), 0, (⟨#[]⟩ : ByteArray), bt457.2.1, true))) else (some (0, 0, 0, (⟨#[]⟩ : ByteArray), (⟨#[]⟩ : ByteArray), false))))) else (some (0, 0, 0, (⟨#[]⟩ : ByteArray), (⟨#[]⟩ : ByteArray), false)))))) else (none)) else (some (0, 0, 0, (⟨#[]⟩ : ByteArray), (⟨#[]⟩ : ByteArray), false)))) = some (r1, r2, r3, r4, r5, r6) := h
  clear h
  replace H := Option.bind_eq_some_iff.mp H
  obtain ⟨⟨t449, t450, t451⟩, A20, H⟩ := H
  replace H : (if t451 = true then (if 0 < (t449.size : Int) then (if (wrap64 ((wrap64 (bt t449 0)) - 128)) < 0 then (if (wrap64 (-(wrap64 ((wrap64 (bt t449 0)) - 128)))) > 8 then (some (0, 0, 0, (⟨#[]⟩ : ByteArray), (⟨#[]⟩ : ByteArray), false)) else ((code_take.f t450 (wrap64 (-(wrap64 ((wrap64 (bt t449 0)) - 128))))).bind fun bt452 => (if bt452.2.2 = true then ((code_number.f k bt452.1).bind fun t455 => (if 0 ≤ (wrap64 (64 - (wrap64 (8 * (wrap64 (-(wrap64 ((wrap64 (bt t449 0)) - 128)))))))) then ((code_size.f (Go.bits .xor .u64 t455 (shr .u64 18446744073709551615 (wrap64 (64 - (wrap64 (8 * (wrap64 (-(wrap64 ((wrap64 (bt t449 0)) - 128))))))))))).bind fun t456 => (if t456 = (wrap64 (-(wrap64 ((wrap64 (bt t449 0)) - 128)))) then (if (Go.bits .xor .u64 t455 (shr .u64 18446744073709551615 (wrap64 (64 - (wrap64 (8 * (wrap64 (-(wrap64 ((wrap64 (bt t449 0)) - 128)))))))))) > 9223372036854775807 then (some (0, 0, 0, (⟨#[]⟩ : ByteArray), (⟨#[]⟩ : ByteArray), false)) else (some (2, wrap64 ((wrap64 (-(wrap64 (Go.bits .xor .u64 t455 (shr .u64 18446744073709551615 (wrap64 (64 - (wrap64 (8 * (wrap64 (-(wrap64 ((wrap64 (bt t449 0)) - 128))))))))))))) - 1), 0, (⟨#[]⟩ : ByteArray), bt452.2.1, true))) else (if (Go.bits .xor .u64 t455 (shr .u64 18446744073709551615 (wrap64 (64 - (wrap64 (8 * (wrap64 (-(wrap64 ((wrap64 (bt t449 0)) - 128)))))))))) = 0 then (if ((wrap64 (-(wrap64 ((wrap64 (bt t449 0)) - 128)))) = 1) then (if (Go.bits .xor .u64 t455 (shr .u64 18446744073709551615 (wrap64 (64 - (wrap64 (8 * (wrap64 (-(wrap64 ((wrap64 (bt t449 0)) - 128)))))))))) > 9223372036854775807 then (some (0, 0, 0, (⟨#[]⟩ : ByteArray), (⟨#[]⟩ : ByteArray), false)) else (some (2, wrap64 ((wrap64 (-(wrap64 (Go.bits .xor .u64 t455 (shr .u64 18446744073709551615 (wrap64 (64 - (wrap64 (8 * (wrap64 (-(wrap64 ((wrap64 (bt t449 0)) - 128))))))))))))) - 1), 0, (⟨#[]⟩ : ByteArray), bt452.2.1, true))) else (some (0, 0, 0, (⟨#[]⟩ : ByteArray), (⟨#[]⟩ : ByteArray), false))) else (some (0, 0, 0, (⟨#[]⟩ : ByteArray), (⟨#[]⟩ : ByteArray), false))))) else (none))) else (some (0, 0, 0, (⟨#[]⟩ : ByteArray), (⟨#[]⟩ : ByteArray), false))))) else (if (wrap64 ((wrap64 (bt t449 0)) - 128)) > 8 then (some (0, 0, 0, (⟨#[]⟩ : ByteArray), (⟨#[]⟩ : ByteArray), false)) else ((code_take.f t450 (wrap64 ((wrap64 (bt t449 0)) - 128))).bind fun bt457 => (if bt457.2.2 = true then ((code_number.f k bt457.1).bind fun t460 => ((code_size.f t460).bind fun t461 => (if t461 = (wrap64 ((wrap64 (bt t449 0)) - 128)) then (if t460 > 9223372036854775807 then (some (0, 0, 0, (⟨#[]⟩ : ByteArray), (⟨#[]⟩ : ByteArray), false)) else (some (2, wrap64 (t460), 0, (⟨#[]⟩ : ByteArray), bt457.2.1, true))) else (some (0, 0, 0, (⟨#[]⟩ : ByteArray), (⟨#[]⟩ : ByteArray), false))))) else (some (0, 0, 0, (⟨#[]⟩ : ByteArray), (⟨#[]⟩ : ByteArray), false)))))) else (none)) else (some (0, 0, 0, (⟨#[]⟩ : ByteArray), (⟨#[]⟩ : ByteArray), false))) = some (r1, r2, r3, r4, r5, r6) := H
  have A2 := am A20
  clear A20
  by_cases c3 : t451 = true
  · subst c3
    have H1 : (if 0 < (t449.size : Int) then (if (wrap64 ((wrap64 (bt t449 0)) - 128)) < 0 then (if (wrap64 (-(wrap64 ((wrap64 (bt t449 0)) - 128)))) > 8 then (some (0, 0, 0, (⟨#[]⟩ : ByteArray), (⟨#[]⟩ : ByteArray), false)) else ((code_take.f t450 (wrap64 (-(wrap64 ((wrap64 (bt t449 0)) - 128))))).bind fun bt452 => (if bt452.2.2 = true then ((code_number.f k bt452.1).bind fun t455 => (if 0 ≤ (wrap64 (64 - (wrap64 (8 * (wrap64 (-(wrap64 ((wrap64 (bt t449 0)) - 128)))))))) then ((code_size.f (Go.bits .xor .u64 t455 (shr .u64 18446744073709551615 (wrap64 (64 - (wrap64 (8 * (wrap64 (-(wrap64 ((wrap64 (bt t449 0)) - 128))))))))))).bind fun t456 => (if t456 = (wrap64 (-(wrap64 ((wrap64 (bt t449 0)) - 128)))) then (if (Go.bits .xor .u64 t455 (shr .u64 18446744073709551615 (wrap64 (64 - (wrap64 (8 * (wrap64 (-(wrap64 ((wrap64 (bt t449 0)) - 128)))))))))) > 9223372036854775807 then (some (0, 0, 0, (⟨#[]⟩ : ByteArray), (⟨#[]⟩ : ByteArray), false)) else (some (2, wrap64 ((wrap64 (-(wrap64 (Go.bits .xor .u64 t455 (shr .u64 18446744073709551615 (wrap64 (64 - (wrap64 (8 * (wrap64 (-(wrap64 ((wrap64 (bt t449 0)) - 128))))))))))))) - 1), 0, (⟨#[]⟩ : ByteArray), bt452.2.1, true))) else (if (Go.bits .xor .u64 t455 (shr .u64 18446744073709551615 (wrap64 (64 - (wrap64 (8 * (wrap64 (-(wrap64 ((wrap64 (bt t449 0)) - 128)))))))))) = 0 then (if ((wrap64 (-(wrap64 ((wrap64 (bt t449 0)) - 128)))) = 1) then (if (Go.bits .xor .u64 t455 (shr .u64 18446744073709551615 (wrap64 (64 - (wrap64 (8 * (wrap64 (-(wrap64 ((wrap64 (bt t449 0)) - 128)))))))))) > 9223372036854775807 then (some (0, 0, 0, (⟨#[]⟩ : ByteArray), (⟨#[]⟩ : ByteArray), false)) else (some (2, wrap64 ((wrap64 (-(wrap64 (Go.bits .xor .u64 t455 (shr .u64 18446744073709551615 (wrap64 (64 - (wrap64 (8 * (wrap64 (-(wrap64 ((wrap64 (bt t449 0)) - 128))))))))))))) - 1), 0, (⟨#[]⟩ : ByteArray), bt452.2.1, true))) else (some (0, 0, 0, (⟨#[]⟩ : ByteArray), (⟨#[]⟩ : ByteArray), false))) else (some (0, 0, 0, (⟨#[]⟩ : ByteArray), (⟨#[]⟩ : ByteArray), false))))) else (none))) else (some (0, 0, 0, (⟨#[]⟩ : ByteArray), (⟨#[]⟩ : ByteArray), false))))) else (if (wrap64 ((wrap64 (bt t449 0)) - 128)) > 8 then (some (0, 0, 0, (⟨#[]⟩ : ByteArray), (⟨#[]⟩ : ByteArray), false)) else ((code_take.f t450 (wrap64 ((wrap64 (bt t449 0)) - 128))).bind fun bt457 => (if bt457.2.2 = true then ((code_number.f k bt457.1).bind fun t460 => ((code_size.f t460).bind fun t461 => (if t461 = (wrap64 ((wrap64 (bt t449 0)) - 128)) then (if t460 > 9223372036854775807 then (some (0, 0, 0, (⟨#[]⟩ : ByteArray), (⟨#[]⟩ : ByteArray), false)) else (some (2, wrap64 (t460), 0, (⟨#[]⟩ : ByteArray), bt457.2.1, true))) else (some (0, 0, 0, (⟨#[]⟩ : ByteArray), (⟨#[]⟩ : ByteArray), false))))) else (some (0, 0, 0, (⟨#[]⟩ : ByteArray), (⟨#[]⟩ : ByteArray), false)))))) else (none)) = some (r1, r2, r3, r4, r5, r6) := by rw [if_pos rfl] at H; exact H
    clear H
    have H := H1
    clear H1
    by_cases c4 : 0 < (t449.size : Int)
    · rw [if_pos c4] at H
      have c4b0 : decide (0 < (t449.size : Int)) = true := decide_eq_true c4
      have c4b1 : decide (0 < t449.size) = true := decide_eq_true (by omega)
      clear c4
      by_cases c6 : (wrap64 ((wrap64 (bt t449 0)) - 128)) < 0
      · rw [if_pos c6] at H
        have c6b0 : decide ((wrap64 ((wrap64 (bt t449 0)) - 128)) < 0) = true := decide_eq_true c6
        clear c6
        by_cases c7 : (wrap64 (-(wrap64 ((wrap64 (bt t449 0)) - 128)))) > 8
        · rw [if_pos c7] at H
          have c7b0 : decide (8 < (wrap64 (-(wrap64 ((wrap64 (bt t449 0)) - 128))))) = true := decide_eq_true c7
          clear c7
          simp only [Option.some.injEq, Prod.mk.injEq] at H
          obtain ⟨rfl, rfl, rfl, rfl, rfl, rfl⟩ := H
          go_enter Tryd.func111, Tryd.ntmps111
          go_wp2_with (first | ((with_reducible refine gate_dst (N := 2) rfl ?_); refine box_event rfl (N := 2) rfl (cs := #[.int .i64 0, .int .i64 0, .float .f64 0, .string (⟨#[]⟩ : ByteArray)]) (t := 50) gs ?_; intro gb448 hg w8 hbox hb; have BK448 := am (hbox); have GW448 := gw hg HB; have GE448 := gw hg HB; replace HB := sb HB hb; clear hb hbox hg) | ((with_reducible refine gate_callee (f := 110) rfl ?_); refine goesL_ (some 14) rfl rfl Tryd.func110 (by kernel_rfl) rfl #[.string a0, .int .i64 1] rfl ar ?_; (with_reducible refine (code_take.calls a0 1 t449 t450 true _ A2.out).mono ?_); rintro e w' ⟨rfl, ⟨nd, rfl⟩⟩; refine ⟨_, rfl, ?_⟩; (try (rw [drewN_self w8]; generalize hq_ : World.drewN w8 _ = w8; have n0_ : Aside0 (w8.heap[gb448]? = some (.cells #[.int .i64 0, .int .i64 0, .float .f64 0, .string (⟨#[]⟩ : ByteArray)] 50 (0, 0))) := ⟨by rw [← hq_]; exact (bk BK448)⟩; have n1_ : Aside0 (Below w.heap.size w w8) := ⟨by rw [← hq_]; exact (bl HB)⟩; clear BK448 HB hq_; have BK448 := n0_; have HB := n1_; clear n0_ n1_)); (try have Zuz9 : w8.cell? ⟨gb448, 0, none⟩ = some (.int .i64 0) := (blk_cell BK448.out 0).trans rfl); (try have Yuz9 := blk_frozen BK448.out 0); (try have Zuz10 : w8.cell? ⟨gb448, 1, none⟩ = some (.int .i64 0) := (blk_cell BK448.out 1).trans rfl); (try have Yuz10 := blk_frozen BK448.out 1); (try have Zuz11 : w8.cell? ⟨gb448, 2, none⟩ = some (.float .f64 0) := (blk_cell BK448.out 2).trans rfl); (try have Yuz11 := blk_frozen BK448.out 2); (try have Zuz12 : w8.cell? ⟨gb448, 3, none⟩ = some (.string (⟨#[]⟩ : ByteArray)) := (blk_cell BK448.out 3).trans rfl); (try have Yuz12 := blk_frozen BK448.out 3); have p5 : 0 ≤ (0 : Int) := (by omega); have q5 : 0 < t449.size := (by have : (0 : Int) < (t449.size : Int) := oda; omega); have hx5 : ∀ h : 0 < t449.size, ((t449[0]'h).toNat : Int) = bt t449 0 := bt_at t449 0; clear p5; have qi5 : (0 < (t449.size : Int)) = True := eq_true (oda); replace q5 := eq_true q5; obtain ⟨Z13_0, Z13_1, Z13_2, Z13_3, Y13_0, Y13_1, Y13_2, Y13_3⟩ := bq4 BK448))
          refine bodyPost_ret (results_ctt rfl _ _ gb448 50 #[.int .i64 0, .int .i64 0, .float .f64 0, .string (⟨#[]⟩ : ByteArray)] (0, 0) _ rfl (by refine rp ?_; refine blk_put (cs := #[.int .i64 0, .int .i64 0, .float .f64 0, .string (⟨#[]⟩ : ByteArray)]) ?_ 3 _ rfl; refine rp ?_; refine blk_put (cs := #[.int .i64 0, .int .i64 0, .float .f64 0, .string (⟨#[]⟩ : ByteArray)]) ?_ 2 _ rfl; refine rp ?_; refine blk_put (cs := #[.int .i64 0, .int .i64 0, .float .f64 0, .string (⟨#[]⟩ : ByteArray)]) ?_ 1 _ rfl; refine rp ?_; refine blk_put (cs := #[.int .i64 0, .int .i64 0, .float .f64 0, .string (⟨#[]⟩ : ByteArray)]) ?_ 0 _ rfl; exact bk BK448) Tryd.underlying50 rfl (by kernel_rfl)) rfl ?_
          exact ⟨er, bl HB⟩
        · rw [if_neg c7] at H
          have c7b0 : decide (8 < (wrap64 (-(wrap64 ((wrap64 (bt t449 0)) - 128))))) = false := decide_eq_false c7
          clear c7
          replace H := Option.bind_eq_some_iff.mp H
          obtain ⟨⟨t452, t453, t454⟩, A140, H⟩ := H
          replace H : (if t454 = true then ((code_number.f k t452).bind fun t455 => (if 0 ≤ (wrap64 (64 - (wrap64 (8 * (wrap64 (-(wrap64 ((wrap64 (bt t449 0)) - 128)))))))) then ((code_size.f (Go.bits .xor .u64 t455 (shr .u64 18446744073709551615 (wrap64 (64 - (wrap64 (8 * (wrap64 (-(wrap64 ((wrap64 (bt t449 0)) - 128))))))))))).bind fun t456 => (if t456 = (wrap64 (-(wrap64 ((wrap64 (bt t449 0)) - 128)))) then (if (Go.bits .xor .u64 t455 (shr .u64 18446744073709551615 (wrap64 (64 - (wrap64 (8 * (wrap64 (-(wrap64 ((wrap64 (bt t449 0)) - 128)))))))))) > 9223372036854775807 then (some (0, 0, 0, (⟨#[]⟩ : ByteArray), (⟨#[]⟩ : ByteArray), false)) else (some (2, wrap64 ((wrap64 (-(wrap64 (Go.bits .xor .u64 t455 (shr .u64 18446744073709551615 (wrap64 (64 - (wrap64 (8 * (wrap64 (-(wrap64 ((wrap64 (bt t449 0)) - 128))))))))))))) - 1), 0, (⟨#[]⟩ : ByteArray), t453, true))) else (if (Go.bits .xor .u64 t455 (shr .u64 18446744073709551615 (wrap64 (64 - (wrap64 (8 * (wrap64 (-(wrap64 ((wrap64 (bt t449 0)) - 128)))))))))) = 0 then (if ((wrap64 (-(wrap64 ((wrap64 (bt t449 0)) - 128)))) = 1) then (if (Go.bits .xor .u64 t455 (shr .u64 18446744073709551615 (wrap64 (64 - (wrap64 (8 * (wrap64 (-(wrap64 ((wrap64 (bt t449 0)) - 128)))))))))) > 9223372036854775807 then (some (0, 0, 0, (⟨#[]⟩ : ByteArray), (⟨#[]⟩ : ByteArray), false)) else (some (2, wrap64 ((wrap64 (-(wrap64 (Go.bits .xor .u64 t455 (shr .u64 18446744073709551615 (wrap64 (64 - (wrap64 (8 * (wrap64 (-(wrap64 ((wrap64 (bt t449 0)) - 128))))))))))))) - 1), 0, (⟨#[]⟩ : ByteArray), t453, true))) else (some (0, 0, 0, (⟨#[]⟩ : ByteArray), (⟨#[]⟩ : ByteArray), false))) else (some (0, 0, 0, (⟨#[]⟩ : ByteArray), (⟨#[]⟩ : ByteArray), false))))) else (none))) else (some (0, 0, 0, (⟨#[]⟩ : ByteArray), (⟨#[]⟩ : ByteArray), false))) = some (r1, r2, r3, r4, r5, r6) := H
          have A14 := am A140
          clear A140
          by_cases c15 : t454 = true
          · subst c15
            have H1 : ((code_number.f k t452).bind fun t455 => (if 0 ≤ (wrap64 (64 - (wrap64 (8 * (wrap64 (-(wrap64 ((wrap64 (bt t449 0)) - 128)))))))) then ((code_size.f (Go.bits .xor .u64 t455 (shr .u64 18446744073709551615 (wrap64 (64 - (wrap64 (8 * (wrap64 (-(wrap64 ((wrap64 (bt t449 0)) - 128))))))))))).bind fun t456 => (if t456 = (wrap64 (-(wrap64 ((wrap64 (bt t449 0)) - 128)))) then (if (Go.bits .xor .u64 t455 (shr .u64 18446744073709551615 (wrap64 (64 - (wrap64 (8 * (wrap64 (-(wrap64 ((wrap64 (bt t449 0)) - 128)))))))))) > 9223372036854775807 then (some (0, 0, 0, (⟨#[]⟩ : ByteArray), (⟨#[]⟩ : ByteArray), false)) else (some (2, wrap64 ((wrap64 (-(wrap64 (Go.bits .xor .u64 t455 (shr .u64 18446744073709551615 (wrap64 (64 - (wrap64 (8 * (wrap64 (-(wrap64 ((wrap64 (bt t449 0)) - 128))))))))))))) - 1), 0, (⟨#[]⟩ : ByteArray), t453, true))) else (if (Go.bits .xor .u64 t455 (shr .u64 18446744073709551615 (wrap64 (64 - (wrap64 (8 * (wrap64 (-(wrap64 ((wrap64 (bt t449 0)) - 128)))))))))) = 0 then (if ((wrap64 (-(wrap64 ((wrap64 (bt t449 0)) - 128)))) = 1) then (if (Go.bits .xor .u64 t455 (shr .u64 18446744073709551615 (wrap64 (64 - (wrap64 (8 * (wrap64 (-(wrap64 ((wrap64 (bt t449 0)) - 128)))))))))) > 9223372036854775807 then (some (0, 0, 0, (⟨#[]⟩ : ByteArray), (⟨#[]⟩ : ByteArray), false)) else (some (2, wrap64 ((wrap64 (-(wrap64 (Go.bits .xor .u64 t455 (shr .u64 18446744073709551615 (wrap64 (64 - (wrap64 (8 * (wrap64 (-(wrap64 ((wrap64 (bt t449 0)) - 128))))))))))))) - 1), 0, (⟨#[]⟩ : ByteArray), t453, true))) else (some (0, 0, 0, (⟨#[]⟩ : ByteArray), (⟨#[]⟩ : ByteArray), false))) else (some (0, 0, 0, (⟨#[]⟩ : ByteArray), (⟨#[]⟩ : ByteArray), false))))) else (none))) = some (r1, r2, r3, r4, r5, r6) := by rw [if_pos rfl] at H; exact H
            clear H
            have H := H1
            clear H1
            replace H := Option.bind_eq_some_iff.mp H
            obtain ⟨t455, A160, H⟩ := H
            replace H : (if 0 ≤ (wrap64 (64 - (wrap64 (8 * (wrap64 (-(wrap64 ((wrap64 (bt t449 0)) - 128)))))))) then ((code_size.f (Go.bits .xor .u64 t455 (shr .u64 18446744073709551615 (wrap64 (64 - (wrap64 (8 * (wrap64 (-(wrap64 ((wrap64 (bt t449 0)) - 128))))))))))).bind fun t456 => (if t456 = (wrap64 (-(wrap64 ((wrap64 (bt t449 0)) - 128)))) then (if (Go.bits .xor .u64 t455 (shr .u64 18446744073709551615 (wrap64 (64 - (wrap64 (8 * (wrap64 (-(wrap64 ((wrap64 (bt t449 0)) - 128)))))))))) > 9223372036854775807 then (some (0, 0, 0, (⟨#[]⟩ : ByteArray), (⟨#[]⟩ : ByteArray), false)) else (some (2, wrap64 ((wrap64 (-(wrap64 (Go.bits .xor .u64 t455 (shr .u64 18446744073709551615 (wrap64 (64 - (wrap64 (8 * (wrap64 (-(wrap64 ((wrap64 (bt t449 0)) - 128))))))))))))) - 1), 0, (⟨#[]⟩ : ByteArray), t453, true))) else (if (Go.bits .xor .u64 t455 (shr .u64 18446744073709551615 (wrap64 (64 - (wrap64 (8 * (wrap64 (-(wrap64 ((wrap64 (bt t449 0)) - 128)))))))))) = 0 then (if ((wrap64 (-(wrap64 ((wrap64 (bt t449 0)) - 128)))) = 1) then (if (Go.bits .xor .u64 t455 (shr .u64 18446744073709551615 (wrap64 (64 - (wrap64 (8 * (wrap64 (-(wrap64 ((wrap64 (bt t449 0)) - 128)))))))))) > 9223372036854775807 then (some (0, 0, 0, (⟨#[]⟩ : ByteArray), (⟨#[]⟩ : ByteArray), false)) else (some (2, wrap64 ((wrap64 (-(wrap64 (Go.bits .xor .u64 t455 (shr .u64 18446744073709551615 (wrap64 (64 - (wrap64 (8 * (wrap64 (-(wrap64 ((wrap64 (bt t449 0)) - 128))))))))))))) - 1), 0, (⟨#[]⟩ : ByteArray), t453, true))) else (some (0, 0, 0, (⟨#[]⟩ : ByteArray), (⟨#[]⟩ : ByteArray), false))) else (some (0, 0, 0, (⟨#[]⟩ : ByteArray), (⟨#[]⟩ : ByteArray), false))))) else (none)) = some (r1, r2, r3, r4, r5, r6) := H
            have A16 := am A160
            clear A160
            obtain ⟨ji17, hji17⟩ : ∃ j_ : Int, (wrap64 (64 - (wrap64 (8 * (wrap64 (-(wrap64 ((wrap64 (bt t449 0)) - 128)))))))) = j_ := ⟨_, rfl⟩
            replace H : (if 0 ≤ (ji17) then ((code_size.f (Go.bits .xor .u64 t455 (shr .u64 18446744073709551615 (ji17)))).bind fun t456 => (if t456 = (wrap64 (-(wrap64 ((wrap64 (bt t449 0)) - 128)))) then (if (Go.bits .xor .u64 t455 (shr .u64 18446744073709551615 (ji17))) > 9223372036854775807 then (some (0, 0, 0, (⟨#[]⟩ : ByteArray), (⟨#[]⟩ : ByteArray), false)) else (some (2, wrap64 ((wrap64 (-(wrap64 (Go.bits .xor .u64 t455 (shr .u64 18446744073709551615 (ji17)))))) - 1), 0, (⟨#[]⟩ : ByteArray), t453, true))) else (if (Go.bits .xor .u64 t455 (shr .u64 18446744073709551615 (ji17))) = 0 then (if ((wrap64 (-(wrap64 ((wrap64 (bt t449 0)) - 128)))) = 1) then (if (Go.bits .xor .u64 t455 (shr .u64 18446744073709551615 (ji17))) > 9223372036854775807 then (some (0, 0, 0, (⟨#[]⟩ : ByteArray), (⟨#[]⟩ : ByteArray), false)) else (some (2, wrap64 ((wrap64 (-(wrap64 (Go.bits .xor .u64 t455 (shr .u64 18446744073709551615 (ji17)))))) - 1), 0, (⟨#[]⟩ : ByteArray), t453, true))) else (some (0, 0, 0, (⟨#[]⟩ : ByteArray), (⟨#[]⟩ : ByteArray), false))) else (some (0, 0, 0, (⟨#[]⟩ : ByteArray), (⟨#[]⟩ : ByteArray), false))))) else (none)) = some (r1, r2, r3, r4, r5, r6) := by first | (rw [hji17] at H; exact H) | (simp only [hji17] at H ⊢; exact H)
            (try rw [hji17] at A2)
            (try rw [hji17] at A14)
            (try rw [hji17] at A16)
            have hji17w : (IntKind.i64.wrap (64 - (wrap64 (8 * (wrap64 (-(wrap64 ((wrap64 (bt t449 0)) - 128)))))))) = ji17 := (i64_w _).trans hji17
            by_cases c18 : 0 ≤ (ji17)
            · rw [if_pos c18] at H
              have c18b0 := eq_true c18
              have c18b1 : decide (0 ≤ (ji17)) = true := decide_eq_true c18
              clear c18
              obtain ⟨ji19, hji19⟩ : ∃ j_ : Int, (shr .u64 18446744073709551615 (ji17)) = j_ := ⟨_, rfl⟩
              replace H : ((code_size.f (Go.bits .xor .u64 t455 (ji19))).bind fun t456 => (if t456 = (wrap64 (-(wrap64 ((wrap64 (bt t449 0)) - 128)))) then (if (Go.bits .xor .u64 t455 (ji19)) > 9223372036854775807 then (some (0, 0, 0, (⟨#[]⟩ : ByteArray), (⟨#[]⟩ : ByteArray), false)) else (some (2, wrap64 ((wrap64 (-(wrap64 (Go.bits .xor .u64 t455 (ji19))))) - 1), 0, (⟨#[]⟩ : ByteArray), t453, true))) else (if (Go.bits .xor .u64 t455 (ji19)) = 0 then (if ((wrap64 (-(wrap64 ((wrap64 (bt t449 0)) - 128)))) = 1) then (if (Go.bits .xor .u64 t455 (ji19)) > 9223372036854775807 then (some (0, 0, 0, (⟨#[]⟩ : ByteArray), (⟨#[]⟩ : ByteArray), false)) else (some (2, wrap64 ((wrap64 (-(wrap64 (Go.bits .xor .u64 t455 (ji19))))) - 1), 0, (⟨#[]⟩ : ByteArray), t453, true))) else (some (0, 0, 0, (⟨#[]⟩ : ByteArray), (⟨#[]⟩ : ByteArray), false))) else (some (0, 0, 0, (⟨#[]⟩ : ByteArray), (⟨#[]⟩ : ByteArray), false))))) = some (r1, r2, r3, r4, r5, r6) := by first | (rw [hji19] at H; exact H) | (simp only [hji19] at H ⊢; exact H)
              (try rw [hji19] at A2)
              (try rw [hji19] at A14)
              (try rw [hji19] at A16)
              have hji19_ : (18446744073709551615 / 2 ^ min (ji17).toNat 64) = ji19 := hji19
              have hji19z : (ji17) ≤ 64 → (18446744073709551615 / 2 ^ (ji17).toNat) = ji19 := shr_small hji19
              replace H := Option.bind_eq_some_iff.mp H
              obtain ⟨t456, A200, H⟩ := H
              replace H : (if t456 = (wrap64 (-(wrap64 ((wrap64 (bt t449 0)) - 128)))) then (if (Go.bits .xor .u64 t455 (ji19)) > 9223372036854775807 then (some (0, 0, 0, (⟨#[]⟩ : ByteArray), (⟨#[]⟩ : ByteArray), false)) else (some (2, wrap64 ((wrap64 (-(wrap64 (Go.bits .xor .u64 t455 (ji19))))) - 1), 0, (⟨#[]⟩ : ByteArray), t453, true))) else (if (Go.bits .xor .u64 t455 (ji19)) = 0 then (if ((wrap64 (-(wrap64 ((wrap64 (bt t449 0)) - 128)))) = 1) then (if (Go.bits .xor .u64 t455 (ji19)) > 9223372036854775807 then (some (0, 0, 0, (⟨#[]⟩ : ByteArray), (⟨#[]⟩ : ByteArray), false)) else (some (2, wrap64 ((wrap64 (-(wrap64 (Go.bits .xor .u64 t455 (ji19))))) - 1), 0, (⟨#[]⟩ : ByteArray), t453, true))) else (some (0, 0, 0, (⟨#[]⟩ : ByteArray), (⟨#[]⟩ : ByteArray), false))) else (some (0, 0, 0, (⟨#[]⟩ : ByteArray), (⟨#[]⟩ : ByteArray), false)))) = some (r1, r2, r3, r4, r5, r6) := H
              have A20 := am A200
              clear A200
              by_cases c21 : t456 = (wrap64 (-(wrap64 ((wrap64 (bt t449 0)) - 128))))
              · rw [if_pos c21] at H
                have c21b0 : (t456 == (wrap64 (-(wrap64 ((wrap64 (bt t449 0)) - 128))))) = true := beq_iff_eq.mpr c21
                have c21b1 : (t456 != (wrap64 (-(wrap64 ((wrap64 (bt t449 0)) - 128))))) = false := bne_eq_false_iff_eq.mpr c21
                clear c21
                by_cases c22 : (Go.bits .xor .u64 t455 (ji19)) > 9223372036854775807
                · rw [if_pos c22] at H
                  have c22b0 : decide (9223372036854775807 < (Go.bits .xor .u64 t455 (ji19))) = true := decide_eq_true c22
                  clear c22
                  simp only [Option.some.injEq, Prod.mk.injEq] at H
                  obtain ⟨rfl, rfl, rfl, rfl, rfl, rfl⟩ := H
                  go_enter Tryd.func111, Tryd.ntmps111
                  go_wp2_with (first | ((with_reducible refine gate_dst (N := 2) rfl ?_); refine box_event rfl (N := 2) rfl (cs := #[.int .i64 0, .int .i64 0, .float .f64 0, .string (⟨#[]⟩ : ByteArray)]) (t := 50) gs ?_; intro gb448 hg w23 hbox hb; have BK448 := am (hbox); have GW448 := gw hg HB; have GE448 := gw hg HB; replace HB := sb HB hb; clear hb hbox hg) | ((with_reducible refine gate_callee (f := 110) rfl ?_); refine goesL_ (some 14) rfl rfl Tryd.func110 (by kernel_rfl) rfl #[.string a0, .int .i64 1] rfl ar ?_; (with_reducible refine (code_take.calls a0 1 t449 t450 true _ A2.out).mono ?_); rintro e w' ⟨rfl, ⟨nd, rfl⟩⟩; refine ⟨_, rfl, ?_⟩; (try (rw [drewN_self w23]; generalize hq_ : World.drewN w23 _ = w23; have n0_ : Aside0 (w23.heap[gb448]? = some (.cells #[.int .i64 0, .int .i64 0, .float .f64 0, .string (⟨#[]⟩ : ByteArray)] 50 (0, 0))) := ⟨by rw [← hq_]; exact (bk BK448)⟩; have n1_ : Aside0 (Below w.heap.size w w23) := ⟨by rw [← hq_]; exact (bl HB)⟩; clear BK448 HB hq_; have BK448 := n0_; have HB := n1_; clear n0_ n1_)); (try have Zuz24 : w23.cell? ⟨gb448, 0, none⟩ = some (.int .i64 0) := (blk_cell BK448.out 0).trans rfl); (try have Yuz24 := blk_frozen BK448.out 0); (try have Zuz25 : w23.cell? ⟨gb448, 1, none⟩ = some (.int .i64 0) := (blk_cell BK448.out 1).trans rfl); (try have Yuz25 := blk_frozen BK448.out 1); (try have Zuz26 : w23.cell? ⟨gb448, 2, none⟩ = some (.float .f64 0) := (blk_cell BK448.out 2).trans rfl); (try have Yuz26 := blk_frozen BK448.out 2); (try have Zuz27 : w23.cell? ⟨gb448, 3, none⟩ = some (.string (⟨#[]⟩ : ByteArray)) := (blk_cell BK448.out 3).trans rfl); (try have Yuz27 := blk_frozen BK448.out 3); have p5 : 0 ≤ (0 : Int) := (by omega); have q5 : 0 < t449.size := (by have : (0 : Int) < (t449.size : Int) := oda; omega); have hx5 : ∀ h : 0 < t449.size, ((t449[0]'h).toNat : Int) = bt t449 0 := bt_at t449 0; clear p5; have qi5 : (0 < (t449.size : Int)) = True := eq_true (oda); replace q5 := eq_true q5) | ((with_reducible refine gate_callee (f := 110) rfl ?_); refine goesL_ (some 36) rfl rfl Tryd.func110 (by kernel_rfl) rfl #[.string t450, .int .i64 (wrap64 (-(wrap64 ((wrap64 (bt t449 0)) - 128))))] rfl ar ?_; (with_reducible refine (code_take.calls t450 (wrap64 (-(wrap64 ((wrap64 (bt t449 0)) - 128)))) t452 t453 true _ A14.out).mono ?_); rintro e w' ⟨rfl, ⟨nd, rfl⟩⟩; refine ⟨_, rfl, ?_⟩; (try (rw [drewN_self w23]; generalize hq_ : World.drewN w23 _ = w23; have n0_ : Aside0 (w23.heap[gb448]? = some (.cells #[.int .i64 0, .int .i64 0, .float .f64 0, .string (⟨#[]⟩ : ByteArray)] 50 (0, 0))) := ⟨by rw [← hq_]; exact (bk BK448)⟩; have n1_ : Aside0 (Below w.heap.size w w23) := ⟨by rw [← hq_]; exact (bl HB)⟩; clear BK448 HB hq_; have BK448 := n0_; have HB := n1_; clear n0_ n1_)); (try have Zuz28 : w23.cell? ⟨gb448, 0, none⟩ = some (.int .i64 0) := (blk_cell BK448.out 0).trans rfl); (try have Yuz28 := blk_frozen BK448.out 0); (try have Zuz29 : w23.cell? ⟨gb448, 1, none⟩ = some (.int .i64 0) := (blk_cell BK448.out 1).trans rfl); (try have Yuz29 := blk_frozen BK448.out 1); (try have Zuz30 : w23.cell? ⟨gb448, 2, none⟩ = some (.float .f64 0) := (blk_cell BK448.out 2).trans rfl); (try have Yuz30 := blk_frozen BK448.out 2); (try have Zuz31 : w23.cell? ⟨gb448, 3, none⟩ = some (.string (⟨#[]⟩ : ByteArray)) := (blk_cell BK448.out 3).trans rfl); (try have Yuz31 := blk_frozen BK448.out 3)) | ((with_reducible refine gate_callee (f := 144) rfl ?_); refine goesL_ (some 44) rfl rfl Tryd.func144 (by kernel_rfl) rfl #[.string t452] rfl ar ?_; (with_reducible refine (code_number.calls k t452 t455 _ A16.out).mono ?_); rintro e w' ⟨rfl, ⟨nd, rfl⟩⟩; refine ⟨_, rfl, ?_⟩; (try (rw [drewN_self w23]; generalize hq_ : World.drewN w23 _ = w23; have n0_ : Aside0 (w23.heap[gb448]? = some (.cells #[.int .i64 0, .int .i64 0, .float .f64 0, .string (⟨#[]⟩ : ByteArray)] 50 (0, 0))) := ⟨by rw [← hq_]; exact (bk BK448)⟩; have n1_ : Aside0 (Below w.heap.size w w23) := ⟨by rw [← hq_]; exact (bl HB)⟩; clear BK448 HB hq_; have BK448 := n0_; have HB := n1_; clear n0_ n1_)); (try have Zuz32 : w23.cell? ⟨gb448, 0, none⟩ = some (.int .i64 0) := (blk_cell BK448.out 0).trans rfl); (try have Yuz32 := blk_frozen BK448.out 0); (try have Zuz33 : w23.cell? ⟨gb448, 1, none⟩ = some (.int .i64 0) := (blk_cell BK448.out 1).trans rfl); (try have Yuz33 := blk_frozen BK448.out 1); (try have Zuz34 : w23.cell? ⟨gb448, 2, none⟩ = some (.float .f64 0) := (blk_cell BK448.out 2).trans rfl); (try have Yuz34 := blk_frozen BK448.out 2); (try have Zuz35 : w23.cell? ⟨gb448, 3, none⟩ = some (.string (⟨#[]⟩ : ByteArray)) := (blk_cell BK448.out 3).trans rfl); (try have Yuz35 := blk_frozen BK448.out 3)) | ((with_reducible refine gate_callee (f := 138) rfl ?_); refine goesL_ (some 53) rfl rfl Tryd.func138 (by kernel_rfl) rfl #[.int .u64 (Go.bits .xor .u64 t455 (ji19))] rfl (by (try simp only [List.map_toArray, List.map_cons, List.map_nil]); first | done | (simp only [hji19]; rfl) | rfl | (simp only [List.length_drop, List.length_take]; rfl)) ?_; (with_reducible refine (code_size.calls (Go.bits .xor .u64 t455 (ji19)) t456 _ A20.out).mono ?_); rintro e w' ⟨rfl, ⟨nd, rfl⟩⟩; refine ⟨_, rfl, ?_⟩; (try (rw [drewN_self w23]; generalize hq_ : World.drewN w23 _ = w23; have n0_ : Aside0 (w23.heap[gb448]? = some (.cells #[.int .i64 0, .int .i64 0, .float .f64 0, .string (⟨#[]⟩ : ByteArray)] 50 (0, 0))) := ⟨by rw [← hq_]; exact (bk BK448)⟩; have n1_ : Aside0 (Below w.heap.size w w23) := ⟨by rw [← hq_]; exact (bl HB)⟩; clear BK448 HB hq_; have BK448 := n0_; have HB := n1_; clear n0_ n1_)); (try have Zuz36 : w23.cell? ⟨gb448, 0, none⟩ = some (.int .i64 0) := (blk_cell BK448.out 0).trans rfl); (try have Yuz36 := blk_frozen BK448.out 0); (try have Zuz37 : w23.cell? ⟨gb448, 1, none⟩ = some (.int .i64 0) := (blk_cell BK448.out 1).trans rfl); (try have Yuz37 := blk_frozen BK448.out 1); (try have Zuz38 : w23.cell? ⟨gb448, 2, none⟩ = some (.float .f64 0) := (blk_cell BK448.out 2).trans rfl); (try have Yuz38 := blk_frozen BK448.out 2); (try have Zuz39 : w23.cell? ⟨gb448, 3, none⟩ = some (.string (⟨#[]⟩ : ByteArray)) := (blk_cell BK448.out 3).trans rfl); (try have Yuz39 := blk_frozen BK448.out 3); obtain ⟨Z40_0, Z40_1, Z40_2, Z40_3, Y40_0, Y40_1, Y40_2, Y40_3⟩ := bq4 BK448))
                  refine bodyPost_ret (results_ctt rfl _ _ gb448 50 #[.int .i64 0, .int .i64 0, .float .f64 0, .string (⟨#[]⟩ : ByteArray)] (0, 0) _ rfl (by refine rp ?_; refine blk_put (cs := #[.int .i64 0, .int .i64 0, .float .f64 0, .string (⟨#[]⟩ : ByteArray)]) ?_ 3 _ rfl; refine rp ?_; refine blk_put (cs := #[.int .i64 0, .int .i64 0, .float .f64 0, .string (⟨#[]⟩ : ByteArray)]) ?_ 2 _ rfl; refine rp ?_; refine blk_put (cs := #[.int .i64 0, .int .i64 0, .float .f64 0, .string (⟨#[]⟩ : ByteArray)]) ?_ 1 _ rfl; refine rp ?_; refine blk_put (cs := #[.int .i64 0, .int .i64 0, .float .f64 0, .string (⟨#[]⟩ : ByteArray)]) ?_ 0 _ rfl; exact bk BK448) Tryd.underlying50 rfl (by kernel_rfl)) rfl ?_
                  exact ⟨by first | rfl | (simp [errW_none, errW_some] <;> rfl) | (simp only [← hji17, ← hji19]; first | rfl | (simp [errW_none, errW_some] <;> rfl)) | (simp [*, errW_none, errW_some] <;> rfl), bl HB⟩
                · rw [if_neg c22] at H
                  have c22b0 : decide (9223372036854775807 < (Go.bits .xor .u64 t455 (ji19))) = false := decide_eq_false c22
                  clear c22
                  simp only [Option.some.injEq, Prod.mk.injEq] at H
                  obtain ⟨rfl, rfl, rfl, rfl, rfl, rfl⟩ := H
                  go_enter Tryd.func111, Tryd.ntmps111
                  go_wp2_with (first | ((with_reducible refine gate_dst (N := 2) rfl ?_); refine box_event rfl (N := 2) rfl (cs := #[.int .i64 0, .int .i64 0, .float .f64 0, .string (⟨#[]⟩ : ByteArray)]) (t := 50) gs ?_; intro gb448 hg w41 hbox hb; have BK448 := am (hbox); have GW448 := gw hg HB; have GE448 := gw hg HB; replace HB := sb HB hb; clear hb hbox hg) | ((with_reducible refine gate_callee (f := 110) rfl ?_); refine goesL_ (some 14) rfl rfl Tryd.func110 (by kernel_rfl) rfl #[.string a0, .int .i64 1] rfl ar ?_; (with_reducible refine (code_take.calls a0 1 t449 t450 true _ A2.out).mono ?_); rintro e w' ⟨rfl, ⟨nd, rfl⟩⟩; refine ⟨_, rfl, ?_⟩; (try (rw [drewN_self w41]; generalize hq_ : World.drewN w41 _ = w41; have n0_ : Aside0 (w41.heap[gb448]? = some (.cells #[.int .i64 0, .int .i64 0, .float .f64 0, .string (⟨#[]⟩ : ByteArray)] 50 (0, 0))) := ⟨by rw [← hq_]; exact (bk BK448)⟩; have n1_ : Aside0 (Below w.heap.size w w41) := ⟨by rw [← hq_]; exact (bl HB)⟩; clear BK448 HB hq_; have BK448 := n0_; have HB := n1_; clear n0_ n1_)); (try have Zuz42 : w41.cell? ⟨gb448, 0, none⟩ = some (.int .i64 0) := (blk_cell BK448.out 0).trans rfl); (try have Yuz42 := blk_frozen BK448.out 0); (try have Zuz43 : w41.cell? ⟨gb448, 1, none⟩ = some (.int .i64 0) := (blk_cell BK448.out 1).trans rfl); (try have Yuz43 := blk_frozen BK448.out 1); (try have Zuz44 : w41.cell? ⟨gb448, 2, none⟩ = some (.float .f64 0) := (blk_cell BK448.out 2).trans rfl); (try have Yuz44 := blk_frozen BK448.out 2); (try have Zuz45 : w41.cell? ⟨gb448, 3, none⟩ = some (.string (⟨#[]⟩ : ByteArray)) := (blk_cell BK448.out 3).trans rfl); (try have Yuz45 := blk_frozen BK448.out 3); have p5 : 0 ≤ (0 : Int) := (by omega); have q5 : 0 < t449.size := (by have : (0 : Int) < (t449.size : Int) := oda; omega); have hx5 : ∀ h : 0 < t449.size, ((t449[0]'h).toNat : Int) = bt t449 0 := bt_at t449 0; clear p5; have qi5 : (0 < (t449.size : Int)) = True := eq_true (oda); replace q5 := eq_true q5) | ((with_reducible refine gate_callee (f := 110) rfl ?_); refine goesL_ (some 36) rfl rfl Tryd.func110 (by kernel_rfl) rfl #[.string t450, .int .i64 (wrap64 (-(wrap64 ((wrap64 (bt t449 0)) - 128))))] rfl ar ?_; (with_reducible refine (code_take.calls t450 (wrap64 (-(wrap64 ((wrap64 (bt t449 0)) - 128)))) t452 t453 true _ A14.out).mono ?_); rintro e w' ⟨rfl, ⟨nd, rfl⟩⟩; refine ⟨_, rfl, ?_⟩; (try (rw [drewN_self w41]; generalize hq_ : World.drewN w41 _ = w41; have n0_ : Aside0 (w41.heap[gb448]? = some (.cells #[.int .i64 0, .int .i64 0, .float .f64 0, .string (⟨#[]⟩ : ByteArray)] 50 (0, 0))) := ⟨by rw [← hq_]; exact (bk BK448)⟩; have n1_ : Aside0 (Below w.heap.size w w41) := ⟨by rw [← hq_]; exact (bl HB)⟩; clear BK448 HB hq_; have BK448 := n0_; have HB := n1_; clear n0_ n1_)); (try have Zuz46 : w41.cell? ⟨gb448, 0, none⟩ = some (.int .i64 0) := (blk_cell BK448.out 0).trans rfl); (try have Yuz46 := blk_frozen BK448.out 0); (try have Zuz47 : w41.cell? ⟨gb448, 1, none⟩ = some (.int .i64 0) := (blk_cell BK448.out 1).trans rfl); (try have Yuz47 := blk_frozen BK448.out 1); (try have Zuz48 : w41.cell? ⟨gb448, 2, none⟩ = some (.float .f64 0) := (blk_cell BK448.out 2).trans rfl); (try have Yuz48 := blk_frozen BK448.out 2); (try have Zuz49 : w41.cell? ⟨gb448, 3, none⟩ = some (.string (⟨#[]⟩ : ByteArray)) := (blk_cell BK448.out 3).trans rfl); (try have Yuz49 := blk_frozen BK448.out 3)) | ((with_reducible refine gate_callee (f := 144) rfl ?_); refine goesL_ (some 44) rfl rfl Tryd.func144 (by kernel_rfl) rfl #[.string t452] rfl ar ?_; (with_reducible refine (code_number.calls k t452 t455 _ A16.out).mono ?_); rintro e w' ⟨rfl, ⟨nd, rfl⟩⟩; refine ⟨_, rfl, ?_⟩; (try (rw [drewN_self w41]; generalize hq_ : World.drewN w41 _ = w41; have n0_ : Aside0 (w41.heap[gb448]? = some (.cells #[.int .i64 0, .int .i64 0, .float .f64 0, .string (⟨#[]⟩ : ByteArray)] 50 (0, 0))) := ⟨by rw [← hq_]; exact (bk BK448)⟩; have n1_ : Aside0 (Below w.heap.size w w41) := ⟨by rw [← hq_]; exact (bl HB)⟩; clear BK448 HB hq_; have BK448 := n0_; have HB := n1_; clear n0_ n1_)); (try have Zuz50 : w41.cell? ⟨gb448, 0, none⟩ = some (.int .i64 0) := (blk_cell BK448.out 0).trans rfl); (try have Yuz50 := blk_frozen BK448.out 0); (try have Zuz51 : w41.cell? ⟨gb448, 1, none⟩ = some (.int .i64 0) := (blk_cell BK448.out 1).trans rfl); (try have Yuz51 := blk_frozen BK448.out 1); (try have Zuz52 : w41.cell? ⟨gb448, 2, none⟩ = some (.float .f64 0) := (blk_cell BK448.out 2).trans rfl); (try have Yuz52 := blk_frozen BK448.out 2); (try have Zuz53 : w41.cell? ⟨gb448, 3, none⟩ = some (.string (⟨#[]⟩ : ByteArray)) := (blk_cell BK448.out 3).trans rfl); (try have Yuz53 := blk_frozen BK448.out 3)) | ((with_reducible refine gate_callee (f := 138) rfl ?_); refine goesL_ (some 53) rfl rfl Tryd.func138 (by kernel_rfl) rfl #[.int .u64 (Go.bits .xor .u64 t455 (ji19))] rfl (by (try simp only [List.map_toArray, List.map_cons, List.map_nil]); first | done | (simp only [hji19]; rfl) | rfl | (simp only [List.length_drop, List.length_take]; rfl)) ?_; (with_reducible refine (code_size.calls (Go.bits .xor .u64 t455 (ji19)) t456 _ A20.out).mono ?_); rintro e w' ⟨rfl, ⟨nd, rfl⟩⟩; refine ⟨_, rfl, ?_⟩; (try (rw [drewN_self w41]; generalize hq_ : World.drewN w41 _ = w41; have n0_ : Aside0 (w41.heap[gb448]? = some (.cells #[.int .i64 0, .int .i64 0, .float .f64 0, .string (⟨#[]⟩ : ByteArray)] 50 (0, 0))) := ⟨by rw [← hq_]; exact (bk BK448)⟩; have n1_ : Aside0 (Below w.heap.size w w41) := ⟨by rw [← hq_]; exact (bl HB)⟩; clear BK448 HB hq_; have BK448 := n0_; have HB := n1_; clear n0_ n1_)); (try have Zuz54 : w41.cell? ⟨gb448, 0, none⟩ = some (.int .i64 0) := (blk_cell BK448.out 0).trans rfl); (try have Yuz54 := blk_frozen BK448.out 0); (try have Zuz55 : w41.cell? ⟨gb448, 1, none⟩ = some (.int .i64 0) := (blk_cell BK448.out 1).trans rfl); (try have Yuz55 := blk_frozen BK448.out 1); (try have Zuz56 : w41.cell? ⟨gb448, 2, none⟩ = some (.float .f64 0) := (blk_cell BK448.out 2).trans rfl); (try have Yuz56 := blk_frozen BK448.out 2); (try have Zuz57 : w41.cell? ⟨gb448, 3, none⟩ = some (.string (⟨#[]⟩ : ByteArray)) := (blk_cell BK448.out 3).trans rfl); (try have Yuz57 := blk_frozen BK448.out 3); obtain ⟨Z58_0, Z58_1, Z58_2, Z58_3, Y58_0, Y58_1, Y58_2, Y58_3⟩ := bq4 BK448))
                  refine bodyPost_ret (results_ctt rfl _ _ gb448 50 #[.int .i64 2, .int .i64 (wrap64 ((wrap64 (-(wrap64 (Go.bits .xor .u64 t455 (ji19))))) - 1)), .float .f64 0, .string (⟨#[]⟩ : ByteArray)] (0, 0) _ rfl (by refine rp ?_; refine blk_put (cs := #[.int .i64 2, .int .i64 (wrap64 ((wrap64 (-(wrap64 (Go.bits .xor .u64 t455 (ji19))))) - 1)), .float .f64 0, .string (⟨#[]⟩ : ByteArray)]) ?_ 3 _ rfl; refine rp ?_; refine blk_put (cs := #[.int .i64 2, .int .i64 (wrap64 ((wrap64 (-(wrap64 (Go.bits .xor .u64 t455 (ji19))))) - 1)), .float .f64 0, .string (⟨#[]⟩ : ByteArray)]) ?_ 2 _ rfl; refine rp ?_; refine blk_put (cs := #[.int .i64 2, .int .i64 0, .float .f64 0, .string (⟨#[]⟩ : ByteArray)]) ?_ 1 _ rfl; refine rp ?_; refine blk_put (cs := #[.int .i64 0, .int .i64 0, .float .f64 0, .string (⟨#[]⟩ : ByteArray)]) ?_ 0 _ rfl; exact bk BK448) Tryd.underlying50 rfl (by kernel_rfl)) rfl ?_
                  exact ⟨by first | rfl | (simp [errW_none, errW_some] <;> rfl) | (simp only [← hji17, ← hji19]; first | rfl | (simp [errW_none, errW_some] <;> rfl)) | (simp [*, errW_none, errW_some] <;> rfl), bl HB⟩
              · rw [if_neg c21] at H
                have c21b0 : (t456 == (wrap64 (-(wrap64 ((wrap64 (bt t449 0)) - 128))))) = false := beq_eq_false_iff_ne.mpr c21
                have c21b1 : (t456 != (wrap64 (-(wrap64 ((wrap64 (bt t449 0)) - 128))))) = true := bne_iff_ne.mpr c21
                by_cases c59 : (Go.bits .xor .u64 t455 (ji19)) = 0
                · rw [if_pos c59] at H
                  have c59b0 : ((Go.bits .xor .u64 t455 (ji19)) == 0) = true := beq_iff_eq.mpr c59
                  have c59b1 : ((Go.bits .xor .u64 t455 (ji19)) != 0) = false := bne_eq_false_iff_eq.mpr c59
                  clear c59
                  by_cases c60 : ((wrap64 (-(wrap64 ((wrap64 (bt t449 0)) - 128)))) = 1)
                  · rw [if_pos c60] at H
                    have c60b0 : ((wrap64 (-(wrap64 ((wrap64 (bt t449 0)) - 128)))) == 1) = true := beq_iff_eq.mpr c60
                    have c60b1 : ((wrap64 (-(wrap64 ((wrap64 (bt t449 0)) - 128)))) != 1) = false := bne_eq_false_iff_eq.mpr c60
                    clear c60
                    by_cases c61 : (Go.bits .xor .u64 t455 (ji19)) > 9223372036854775807
                    · rw [if_pos c61] at H
                      have c61b0 : decide (9223372036854775807 < (Go.bits .xor .u64 t455 (ji19))) = true := decide_eq_true c61
                      clear c61
                      simp only [Option.some.injEq, Prod.mk.injEq] at H
                      obtain ⟨rfl, rfl, rfl, rfl, rfl, rfl⟩ := H
                      go_enter Tryd.func111, Tryd.ntmps111
                      go_wp2_with (first | ((with_reducible refine gate_dst (N := 2) rfl ?_); refine box_event rfl (N := 2) rfl (cs := #[.int .i64 0, .int .i64 0, .float .f64 0, .string (⟨#[]⟩ : ByteArray)]) (t := 50) gs ?_; intro gb448 hg w62 hbox hb; have BK448 := am (hbox); have GW448 := gw hg HB; have GE448 := gw hg HB; replace HB := sb HB hb; clear hb hbox hg) | ((with_reducible refine gate_callee (f := 110) rfl ?_); refine goesL_ (some 14) rfl rfl Tryd.func110 (by kernel_rfl) rfl #[.string a0, .int .i64 1] rfl ar ?_; (with_reducible refine (code_take.calls a0 1 t449 t450 true _ A2.out).mono ?_); rintro e w' ⟨rfl, ⟨nd, rfl⟩⟩; refine ⟨_, rfl, ?_⟩; (try (rw [drewN_self w62]; generalize hq_ : World.drewN w62 _ = w62; have n0_ : Aside0 (w62.heap[gb448]? = some (.cells #[.int .i64 0, .int .i64 0, .float .f64 0, .string (⟨#[]⟩ : ByteArray)] 50 (0, 0))) := ⟨by rw [← hq_]; exact (bk BK448)⟩; have n1_ : Aside0 (Below w.heap.size w w62) := ⟨by rw [← hq_]; exact (bl HB)⟩; clear BK448 HB hq_; have BK448 := n0_; have HB := n1_; clear n0_ n1_)); (try have Zuz63 : w62.cell? ⟨gb448, 0, none⟩ = some (.int .i64 0) := (blk_cell BK448.out 0).trans rfl); (try have Yuz63 := blk_frozen BK448.out 0); (try have Zuz64 : w62.cell? ⟨gb448, 1, none⟩ = some (.int .i64 0) := (blk_cell BK448.out 1).trans rfl); (try have Yuz64 := blk_frozen BK448.out 1); (try have Zuz65 : w62.cell? ⟨gb448, 2, none⟩ = some (.float .f64 0) := (blk_cell BK448.out 2).trans rfl); (try have Yuz65 := blk_frozen BK448.out 2); (try have Zuz66 : w62.cell? ⟨gb448, 3, none⟩ = some (.string (⟨#[]⟩ : ByteArray)) := (blk_cell BK448.out 3).trans rfl); (try have Yuz66 := blk_frozen BK448.out 3); have p5 : 0 ≤ (0 : Int) := (by omega); have q5 : 0 < t449.size := (by have : (0 : Int) < (t449.size : Int) := oda; omega); have hx5 : ∀ h : 0 < t449.size, ((t449[0]'h).toNat : Int) = bt t449 0 := bt_at t449 0; clear p5; have qi5 : (0 < (t449.size : Int)) = True := eq_true (oda); replace q5 := eq_true q5) | ((with_reducible refine gate_callee (f := 110) rfl ?_); refine goesL_ (some 36) rfl rfl Tryd.func110 (by kernel_rfl) rfl #[.string t450, .int .i64 (wrap64 (-(wrap64 ((wrap64 (bt t449 0)) - 128))))] rfl ar ?_; (with_reducible refine (code_take.calls t450 (wrap64 (-(wrap64 ((wrap64 (bt t449 0)) - 128)))) t452 t453 true _ A14.out).mono ?_); rintro e w' ⟨rfl, ⟨nd, rfl⟩⟩; refine ⟨_, rfl, ?_⟩; (try (rw [drewN_self w62]; generalize hq_ : World.drewN w62 _ = w62; have n0_ : Aside0 (w62.heap[gb448]? = some (.cells #[.int .i64 0, .int .i64 0, .float .f64 0, .string (⟨#[]⟩ : ByteArray)] 50 (0, 0))) := ⟨by rw [← hq_]; exact (bk BK448)⟩; have n1_ : Aside0 (Below w.heap.size w w62) := ⟨by rw [← hq_]; exact (bl HB)⟩; clear BK448 HB hq_; have BK448 := n0_; have HB := n1_; clear n0_ n1_)); (try have Zuz67 : w62.cell? ⟨gb448, 0, none⟩ = some (.int .i64 0) := (blk_cell BK448.out 0).trans rfl); (try have Yuz67 := blk_frozen BK448.out 0); (try have Zuz68 : w62.cell? ⟨gb448, 1, none⟩ = some (.int .i64 0) := (blk_cell BK448.out 1).trans rfl); (try have Yuz68 := blk_frozen BK448.out 1); (try have Zuz69 : w62.cell? ⟨gb448, 2, none⟩ = some (.float .f64 0) := (blk_cell BK448.out 2).trans rfl); (try have Yuz69 := blk_frozen BK448.out 2); (try have Zuz70 : w62.cell? ⟨gb448, 3, none⟩ = some (.string (⟨#[]⟩ : ByteArray)) := (blk_cell BK448.out 3).trans rfl); (try have Yuz70 := blk_frozen BK448.out 3)) | ((with_reducible refine gate_callee (f := 144) rfl ?_); refine goesL_ (some 44) rfl rfl Tryd.func144 (by kernel_rfl) rfl #[.string t452] rfl ar ?_; (with_reducible refine (code_number.calls k t452 t455 _ A16.out).mono ?_); rintro e w' ⟨rfl, ⟨nd, rfl⟩⟩; refine ⟨_, rfl, ?_⟩; (try (rw [drewN_self w62]; generalize hq_ : World.drewN w62 _ = w62; have n0_ : Aside0 (w62.heap[gb448]? = some (.cells #[.int .i64 0, .int .i64 0, .float .f64 0, .string (⟨#[]⟩ : ByteArray)] 50 (0, 0))) := ⟨by rw [← hq_]; exact (bk BK448)⟩; have n1_ : Aside0 (Below w.heap.size w w62) := ⟨by rw [← hq_]; exact (bl HB)⟩; clear BK448 HB hq_; have BK448 := n0_; have HB := n1_; clear n0_ n1_)); (try have Zuz71 : w62.cell? ⟨gb448, 0, none⟩ = some (.int .i64 0) := (blk_cell BK448.out 0).trans rfl); (try have Yuz71 := blk_frozen BK448.out 0); (try have Zuz72 : w62.cell? ⟨gb448, 1, none⟩ = some (.int .i64 0) := (blk_cell BK448.out 1).trans rfl); (try have Yuz72 := blk_frozen BK448.out 1); (try have Zuz73 : w62.cell? ⟨gb448, 2, none⟩ = some (.float .f64 0) := (blk_cell BK448.out 2).trans rfl); (try have Yuz73 := blk_frozen BK448.out 2); (try have Zuz74 : w62.cell? ⟨gb448, 3, none⟩ = some (.string (⟨#[]⟩ : ByteArray)) := (blk_cell BK448.out 3).trans rfl); (try have Yuz74 := blk_frozen BK448.out 3)) | ((with_reducible refine gate_callee (f := 138) rfl ?_); refine goesL_ (some 53) rfl rfl Tryd.func138 (by kernel_rfl) rfl #[.int .u64 (Go.bits .xor .u64 t455 (ji19))] rfl (by (try simp only [List.map_toArray, List.map_cons, List.map_nil]); first | done | (simp only [hji19]; rfl) | rfl | (simp only [List.length_drop, List.length_take]; rfl)) ?_; (with_reducible refine (code_size.calls (Go.bits .xor .u64 t455 (ji19)) t456 _ A20.out).mono ?_); rintro e w' ⟨rfl, ⟨nd, rfl⟩⟩; refine ⟨_, rfl, ?_⟩; (try (rw [drewN_self w62]; generalize hq_ : World.drewN w62 _ = w62; have n0_ : Aside0 (w62.heap[gb448]? = some (.cells #[.int .i64 0, .int .i64 0, .float .f64 0, .string (⟨#[]⟩ : ByteArray)] 50 (0, 0))) := ⟨by rw [← hq_]; exact (bk BK448)⟩; have n1_ : Aside0 (Below w.heap.size w w62) := ⟨by rw [← hq_]; exact (bl HB)⟩; clear BK448 HB hq_; have BK448 := n0_; have HB := n1_; clear n0_ n1_)); (try have Zuz75 : w62.cell? ⟨gb448, 0, none⟩ = some (.int .i64 0) := (blk_cell BK448.out 0).trans rfl); (try have Yuz75 := blk_frozen BK448.out 0); (try have Zuz76 : w62.cell? ⟨gb448, 1, none⟩ = some (.int .i64 0) := (blk_cell BK448.out 1).trans rfl); (try have Yuz76 := blk_frozen BK448.out 1); (try have Zuz77 : w62.cell? ⟨gb448, 2, none⟩ = some (.float .f64 0) := (blk_cell BK448.out 2).trans rfl); (try have Yuz77 := blk_frozen BK448.out 2); (try have Zuz78 : w62.cell? ⟨gb448, 3, none⟩ = some (.string (⟨#[]⟩ : ByteArray)) := (blk_cell BK448.out 3).trans rfl); (try have Yuz78 := blk_frozen BK448.out 3); obtain ⟨Z79_0, Z79_1, Z79_2, Z79_3, Y79_0, Y79_1, Y79_2, Y79_3⟩ := bq4 BK448))
                      refine bodyPost_ret (results_ctt rfl _ _ gb448 50 #[.int .i64 0, .int .i64 0, .float .f64 0, .string (⟨#[]⟩ : ByteArray)] (0, 0) _ rfl (by refine rp ?_; refine blk_put (cs := #[.int .i64 0, .int .i64 0, .float .f64 0, .string (⟨#[]⟩ : ByteArray)]) ?_ 3 _ rfl; refine rp ?_; refine blk_put (cs := #[.int .i64 0, .int .i64 0, .float .f64 0, .string (⟨#[]⟩ : ByteArray)]) ?_ 2 _ rfl; refine rp ?_; refine blk_put (cs := #[.int .i64 0, .int .i64 0, .float .f64 0, .string (⟨#[]⟩ : ByteArray)]) ?_ 1 _ rfl; refine rp ?_; refine blk_put (cs := #[.int .i64 0, .int .i64 0, .float .f64 0, .string (⟨#[]⟩ : ByteArray)]) ?_ 0 _ rfl; exact bk BK448) Tryd.underlying50 rfl (by kernel_rfl)) rfl ?_
                      exact ⟨by first | rfl | (simp [errW_none, errW_some] <;> rfl) | (simp only [← hji17, ← hji19]; first | rfl | (simp [errW_none, errW_some] <;> rfl)) | (simp [*, errW_none, errW_some] <;> rfl), bl HB⟩
                    · rw [if_neg c61] at H
                      have c61b0 : decide (9223372036854775807 < (Go.bits .xor .u64 t455 (ji19))) = false := decide_eq_false c61
                      clear c61
                      simp only [Option.some.injEq, Prod.mk.injEq] at H
                      obtain ⟨rfl, rfl, rfl, rfl, rfl, rfl⟩ := H
                      go_enter Tryd.func111, Tryd.ntmps111
                      go_wp2_with (first | ((with_reducible refine gate_dst (N := 2) rfl ?_); refine box_event rfl (N := 2) rfl (cs := #[.int .i64 0, .int .i64 0, .float .f64 0, .string (⟨#[]⟩ : ByteArray)]) (t := 50) gs ?_; intro gb448 hg w80 hbox hb; have BK448 := am (hbox); have GW448 := gw hg HB; have GE448 := gw hg HB; replace HB := sb HB hb; clear hb hbox hg) | ((with_reducible refine gate_callee (f := 110) rfl ?_); refine goesL_ (some 14) rfl rfl Tryd.func110 (by kernel_rfl) rfl #[.string a0, .int .i64 1] rfl ar ?_; (with_reducible refine (code_take.calls a0 1 t449 t450 true _ A2.out).mono ?_); rintro e w' ⟨rfl, ⟨nd, rfl⟩⟩; refine ⟨_, rfl, ?_⟩; (try (rw [drewN_self w80]; generalize hq_ : World.drewN w80 _ = w80; have n0_ : Aside0 (w80.heap[gb448]? = some (.cells #[.int .i64 0, .int .i64 0, .float .f64 0, .string (⟨#[]⟩ : ByteArray)] 50 (0, 0))) := ⟨by rw [← hq_]; exact (bk BK448)⟩; have n1_ : Aside0 (Below w.heap.size w w80) := ⟨by rw [← hq_]; exact (bl HB)⟩; clear BK448 HB hq_; have BK448 := n0_; have HB := n1_; clear n0_ n1_)); (try have Zuz81 : w80.cell? ⟨gb448, 0, none⟩ = some (.int .i64 0) := (blk_cell BK448.out 0).trans rfl); (try have Yuz81 := blk_frozen BK448.out 0); (try have Zuz82 : w80.cell? ⟨gb448, 1, none⟩ = some (.int .i64 0) := (blk_cell BK448.out 1).trans rfl); (try have Yuz82 := blk_frozen BK448.out 1); (try have Zuz83 : w80.cell? ⟨gb448, 2, none⟩ = some (.float .f64 0) := (blk_cell BK448.out 2).trans rfl); (try have Yuz83 := blk_frozen BK448.out 2); (try have Zuz84 : w80.cell? ⟨gb448, 3, none⟩ = some (.string (⟨#[]⟩ : ByteArray)) := (blk_cell BK448.out 3).trans rfl); (try have Yuz84 := blk_frozen BK448.out 3); have p5 : 0 ≤ (0 : Int) := (by omega); have q5 : 0 < t449.size := (by have : (0 : Int) < (t449.size : Int) := oda; omega); have hx5 : ∀ h : 0 < t449.size, ((t449[0]'h).toNat : Int) = bt t449 0 := bt_at t449 0; clear p5; have qi5 : (0 < (t449.size : Int)) = True := eq_true (oda); replace q5 := eq_true q5) | ((with_reducible refine gate_callee (f := 110) rfl ?_); refine goesL_ (some 36) rfl rfl Tryd.func110 (by kernel_rfl) rfl #[.string t450, .int .i64 (wrap64 (-(wrap64 ((wrap64 (bt t449 0)) - 128))))] rfl ar ?_; (with_reducible refine (code_take.calls t450 (wrap64 (-(wrap64 ((wrap64 (bt t449 0)) - 128)))) t452 t453 true _ A14.out).mono ?_); rintro e w' ⟨rfl, ⟨nd, rfl⟩⟩; refine ⟨_, rfl, ?_⟩; (try (rw [drewN_self w80]; generalize hq_ : World.drewN w80 _ = w80; have n0_ : Aside0 (w80.heap[gb448]? = some (.cells #[.int .i64 0, .int .i64 0, .float .f64 0, .string (⟨#[]⟩ : ByteArray)] 50 (0, 0))) := ⟨by rw [← hq_]; exact (bk BK448)⟩; have n1_ : Aside0 (Below w.heap.size w w80) := ⟨by rw [← hq_]; exact (bl HB)⟩; clear BK448 HB hq_; have BK448 := n0_; have HB := n1_; clear n0_ n1_)); (try have Zuz85 : w80.cell? ⟨gb448, 0, none⟩ = some (.int .i64 0) := (blk_cell BK448.out 0).trans rfl); (try have Yuz85 := blk_frozen BK448.out 0); (try have Zuz86 : w80.cell? ⟨gb448, 1, none⟩ = some (.int .i64 0) := (blk_cell BK448.out 1).trans rfl); (try have Yuz86 := blk_frozen BK448.out 1); (try have Zuz87 : w80.cell? ⟨gb448, 2, none⟩ = some (.float .f64 0) := (blk_cell BK448.out 2).trans rfl); (try have Yuz87 := blk_frozen BK448.out 2); (try have Zuz88 : w80.cell? ⟨gb448, 3, none⟩ = some (.string (⟨#[]⟩ : ByteArray)) := (blk_cell BK448.out 3).trans rfl); (try have Yuz88 := blk_frozen BK448.out 3)) | ((with_reducible refine gate_callee (f := 144) rfl ?_); refine goesL_ (some 44) rfl rfl Tryd.func144 (by kernel_rfl) rfl #[.string t452] rfl ar ?_; (with_reducible refine (code_number.calls k t452 t455 _ A16.out).mono ?_); rintro e w' ⟨rfl, ⟨nd, rfl⟩⟩; refine ⟨_, rfl, ?_⟩; (try (rw [drewN_self w80]; generalize hq_ : World.drewN w80 _ = w80; have n0_ : Aside0 (w80.heap[gb448]? = some (.cells #[.int .i64 0, .int .i64 0, .float .f64 0, .string (⟨#[]⟩ : ByteArray)] 50 (0, 0))) := ⟨by rw [← hq_]; exact (bk BK448)⟩; have n1_ : Aside0 (Below w.heap.size w w80) := ⟨by rw [← hq_]; exact (bl HB)⟩; clear BK448 HB hq_; have BK448 := n0_; have HB := n1_; clear n0_ n1_)); (try have Zuz89 : w80.cell? ⟨gb448, 0, none⟩ = some (.int .i64 0) := (blk_cell BK448.out 0).trans rfl); (try have Yuz89 := blk_frozen BK448.out 0); (try have Zuz90 : w80.cell? ⟨gb448, 1, none⟩ = some (.int .i64 0) := (blk_cell BK448.out 1).trans rfl); (try have Yuz90 := blk_frozen BK448.out 1); (try have Zuz91 : w80.cell? ⟨gb448, 2, none⟩ = some (.float .f64 0) := (blk_cell BK448.out 2).trans rfl); (try have Yuz91 := blk_frozen BK448.out 2); (try have Zuz92 : w80.cell? ⟨gb448, 3, none⟩ = some (.string (⟨#[]⟩ : ByteArray)) := (blk_cell BK448.out 3).trans rfl); (try have Yuz92 := blk_frozen BK448.out 3)) | ((with_reducible refine gate_callee (f := 138) rfl ?_); refine goesL_ (some 53) rfl rfl Tryd.func138 (by kernel_rfl) rfl #[.int .u64 (Go.bits .xor .u64 t455 (ji19))] rfl (by (try simp only [List.map_toArray, List.map_cons, List.map_nil]); first | done | (simp only [hji19]; rfl) | rfl | (simp only [List.length_drop, List.length_take]; rfl)) ?_; (with_reducible refine (code_size.calls (Go.bits .xor .u64 t455 (ji19)) t456 _ A20.out).mono ?_); rintro e w' ⟨rfl, ⟨nd, rfl⟩⟩; refine ⟨_, rfl, ?_⟩; (try (rw [drewN_self w80]; generalize hq_ : World.drewN w80 _ = w80; have n0_ : Aside0 (w80.heap[gb448]? = some (.cells #[.int .i64 0, .int .i64 0, .float .f64 0, .string (⟨#[]⟩ : ByteArray)] 50 (0, 0))) := ⟨by rw [← hq_]; exact (bk BK448)⟩; have n1_ : Aside0 (Below w.heap.size w w80) := ⟨by rw [← hq_]; exact (bl HB)⟩; clear BK448 HB hq_; have BK448 := n0_; have HB := n1_; clear n0_ n1_)); (try have Zuz93 : w80.cell? ⟨gb448, 0, none⟩ = some (.int .i64 0) := (blk_cell BK448.out 0).trans rfl); (try have Yuz93 := blk_frozen BK448.out 0); (try have Zuz94 : w80.cell? ⟨gb448, 1, none⟩ = some (.int .i64 0) := (blk_cell BK448.out 1).trans rfl); (try have Yuz94 := blk_frozen BK448.out 1); (try have Zuz95 : w80.cell? ⟨gb448, 2, none⟩ = some (.float .f64 0) := (blk_cell BK448.out 2).trans rfl); (try have Yuz95 := blk_frozen BK448.out 2); (try have Zuz96 : w80.cell? ⟨gb448, 3, none⟩ = some (.string (⟨#[]⟩ : ByteArray)) := (blk_cell BK448.out 3).trans rfl); (try have Yuz96 := blk_frozen BK448.out 3); obtain ⟨Z97_0, Z97_1, Z97_2, Z97_3, Y97_0, Y97_1, Y97_2, Y97_3⟩ := bq4 BK448))
                      refine bodyPost_ret (results_ctt rfl _ _ gb448 50 #[.int .i64 2, .int .i64 (wrap64 ((wrap64 (-(wrap64 (Go.bits .xor .u64 t455 (ji19))))) - 1)), .float .f64 0, .string (⟨#[]⟩ : ByteArray)] (0, 0) _ rfl (by refine rp ?_; refine blk_put (cs := #[.int .i64 2, .int .i64 (wrap64 ((wrap64 (-(wrap64 (Go.bits .xor .u64 t455 (ji19))))) - 1)), .float .f64 0, .string (⟨#[]⟩ : ByteArray)]) ?_ 3 _ rfl; refine rp ?_; refine blk_put (cs := #[.int .i64 2, .int .i64 (wrap64 ((wrap64 (-(wrap64 (Go.bits .xor .u64 t455 (ji19))))) - 1)), .float .f64 0, .string (⟨#[]⟩ : ByteArray)]) ?_ 2 _ rfl; refine rp ?_; refine blk_put (cs := #[.int .i64 2, .int .i64 0, .float .f64 0, .string (⟨#[]⟩ : ByteArray)]) ?_ 1 _ rfl; refine rp ?_; refine blk_put (cs := #[.int .i64 0, .int .i64 0, .float .f64 0, .string (⟨#[]⟩ : ByteArray)]) ?_ 0 _ rfl; exact bk BK448) Tryd.underlying50 rfl (by kernel_rfl)) rfl ?_
                      exact ⟨by first | rfl | (simp [errW_none, errW_some] <;> rfl) | (simp only [← hji17, ← hji19]; first | rfl | (simp [errW_none, errW_some] <;> rfl)) | (simp [*, errW_none, errW_some] <;> rfl), bl HB⟩
                  · rw [if_neg c60] at H
                    have c60b0 : ((wrap64 (-(wrap64 ((wrap64 (bt t449 0)) - 128)))) == 1) = false := beq_eq_false_iff_ne.mpr c60
                    have c60b1 : ((wrap64 (-(wrap64 ((wrap64 (bt t449 0)) - 128)))) != 1) = true := bne_iff_ne.mpr c60
                    simp only [Option.some.injEq, Prod.mk.injEq] at H
                    obtain ⟨rfl, rfl, rfl, rfl, rfl, rfl⟩ := H
                    go_enter Tryd.func111, Tryd.ntmps111
                    go_wp2_with (first | ((with_reducible refine gate_dst (N := 2) rfl ?_); refine box_event rfl (N := 2) rfl (cs := #[.int .i64 0, .int .i64 0, .float .f64 0, .string (⟨#[]⟩ : ByteArray)]) (t := 50) gs ?_; intro gb448 hg w98 hbox hb; have BK448 := am (hbox); have GW448 := gw hg HB; have GE448 := gw hg HB; replace HB := sb HB hb; clear hb hbox hg) | ((with_reducible refine gate_callee (f := 110) rfl ?_); refine goesL_ (some 14) rfl rfl Tryd.func110 (by kernel_rfl) rfl #[.string a0, .int .i64 1] rfl ar ?_; (with_reducible refine (code_take.calls a0 1 t449 t450 true _ A2.out).mono ?_); rintro e w' ⟨rfl, ⟨nd, rfl⟩⟩; refine ⟨_, rfl, ?_⟩; (try (rw [drewN_self w98]; generalize hq_ : World.drewN w98 _ = w98; have n0_ : Aside0 (w98.heap[gb448]? = some (.cells #[.int .i64 0, .int .i64 0, .float .f64 0, .string (⟨#[]⟩ : ByteArray)] 50 (0, 0))) := ⟨by rw [← hq_]; exact (bk BK448)⟩; have n1_ : Aside0 (Below w.heap.size w w98) := ⟨by rw [← hq_]; exact (bl HB)⟩; clear BK448 HB hq_; have BK448 := n0_; have HB := n1_; clear n0_ n1_)); (try have Zuz99 : w98.cell? ⟨gb448, 0, none⟩ = some (.int .i64 0) := (blk_cell BK448.out 0).trans rfl); (try have Yuz99 := blk_frozen BK448.out 0); (try have Zuz100 : w98.cell? ⟨gb448, 1, none⟩ = some (.int .i64 0) := (blk_cell BK448.out 1).trans rfl); (try have Yuz100 := blk_frozen BK448.out 1); (try have Zuz101 : w98.cell? ⟨gb448, 2, none⟩ = some (.float .f64 0) := (blk_cell BK448.out 2).trans rfl); (try have Yuz101 := blk_frozen BK448.out 2); (try have Zuz102 : w98.cell? ⟨gb448, 3, none⟩ = some (.string (⟨#[]⟩ : ByteArray)) := (blk_cell BK448.out 3).trans rfl); (try have Yuz102 := blk_frozen BK448.out 3); have p5 : 0 ≤ (0 : Int) := (by omega); have q5 : 0 < t449.size := (by have : (0 : Int) < (t449.size : Int) := oda; omega); have hx5 : ∀ h : 0 < t449.size, ((t449[0]'h).toNat : Int) = bt t449 0 := bt_at t449 0; clear p5; have qi5 : (0 < (t449.size : Int)) = True := eq_true (oda); replace q5 := eq_true q5) | ((with_reducible refine gate_callee (f := 110) rfl ?_); refine goesL_ (some 36) rfl rfl Tryd.func110 (by kernel_rfl) rfl #[.string t450, .int .i64 (wrap64 (-(wrap64 ((wrap64 (bt t449 0)) - 128))))] rfl ar ?_; (with_reducible refine (code_take.calls t450 (wrap64 (-(wrap64 ((wrap64 (bt t449 0)) - 128)))) t452 t453 true _ A14.out).mono ?_); rintro e w' ⟨rfl, ⟨nd, rfl⟩⟩; refine ⟨_, rfl, ?_⟩; (try (rw [drewN_self w98]; generalize hq_ : World.drewN w98 _ = w98; have n0_ : Aside0 (w98.heap[gb448]? = some (.cells #[.int .i64 0, .int .i64 0, .float .f64 0, .string (⟨#[]⟩ : ByteArray)] 50 (0, 0))) := ⟨by rw [← hq_]; exact (bk BK448)⟩; have n1_ : Aside0 (Below w.heap.size w w98) := ⟨by rw [← hq_]; exact (bl HB)⟩; clear BK448 HB hq_; have BK448 := n0_; have HB := n1_; clear n0_ n1_)); (try have Zuz103 : w98.cell? ⟨gb448, 0, none⟩ = some (.int .i64 0) := (blk_cell BK448.out 0).trans rfl); (try have Yuz103 := blk_frozen BK448.out 0); (try have Zuz104 : w98.cell? ⟨gb448, 1, none⟩ = some (.int .i64 0) := (blk_cell BK448.out 1).trans rfl); (try have Yuz104 := blk_frozen BK448.out 1); (try have Zuz105 : w98.cell? ⟨gb448, 2, none⟩ = some (.float .f64 0) := (blk_cell BK448.out 2).trans rfl); (try have Yuz105 := blk_frozen BK448.out 2); (try have Zuz106 : w98.cell? ⟨gb448, 3, none⟩ = some (.string (⟨#[]⟩ : ByteArray)) := (blk_cell BK448.out 3).trans rfl); (try have Yuz106 := blk_frozen BK448.out 3)) | ((with_reducible refine gate_callee (f := 144) rfl ?_); refine goesL_ (some 44) rfl rfl Tryd.func144 (by kernel_rfl) rfl #[.string t452] rfl ar ?_; (with_reducible refine (code_number.calls k t452 t455 _ A16.out).mono ?_); rintro e w' ⟨rfl, ⟨nd, rfl⟩⟩; refine ⟨_, rfl, ?_⟩; (try (rw [drewN_self w98]; generalize hq_ : World.drewN w98 _ = w98; have n0_ : Aside0 (w98.heap[gb448]? = some (.cells #[.int .i64 0, .int .i64 0, .float .f64 0, .string (⟨#[]⟩ : ByteArray)] 50 (0, 0))) := ⟨by rw [← hq_]; exact (bk BK448)⟩; have n1_ : Aside0 (Below w.heap.size w w98) := ⟨by rw [← hq_]; exact (bl HB)⟩; clear BK448 HB hq_; have BK448 := n0_; have HB := n1_; clear n0_ n1_)); (try have Zuz107 : w98.cell? ⟨gb448, 0, none⟩ = some (.int .i64 0) := (blk_cell BK448.out 0).trans rfl); (try have Yuz107 := blk_frozen BK448.out 0); (try have Zuz108 : w98.cell? ⟨gb448, 1, none⟩ = some (.int .i64 0) := (blk_cell BK448.out 1).trans rfl); (try have Yuz108 := blk_frozen BK448.out 1); (try have Zuz109 : w98.cell? ⟨gb448, 2, none⟩ = some (.float .f64 0) := (blk_cell BK448.out 2).trans rfl); (try have Yuz109 := blk_frozen BK448.out 2); (try have Zuz110 : w98.cell? ⟨gb448, 3, none⟩ = some (.string (⟨#[]⟩ : ByteArray)) := (blk_cell BK448.out 3).trans rfl); (try have Yuz110 := blk_frozen BK448.out 3)) | ((with_reducible refine gate_callee (f := 138) rfl ?_); refine goesL_ (some 53) rfl rfl Tryd.func138 (by kernel_rfl) rfl #[.int .u64 (Go.bits .xor .u64 t455 (ji19))] rfl (by (try simp only [List.map_toArray, List.map_cons, List.map_nil]); first | done | (simp only [hji19]; rfl) | rfl | (simp only [List.length_drop, List.length_take]; rfl)) ?_; (with_reducible refine (code_size.calls (Go.bits .xor .u64 t455 (ji19)) t456 _ A20.out).mono ?_); rintro e w' ⟨rfl, ⟨nd, rfl⟩⟩; refine ⟨_, rfl, ?_⟩; (try (rw [drewN_self w98]; generalize hq_ : World.drewN w98 _ = w98; have n0_ : Aside0 (w98.heap[gb448]? = some (.cells #[.int .i64 0, .int .i64 0, .float .f64 0, .string (⟨#[]⟩ : ByteArray)] 50 (0, 0))) := ⟨by rw [← hq_]; exact (bk BK448)⟩; have n1_ : Aside0 (Below w.heap.size w w98) := ⟨by rw [← hq_]; exact (bl HB)⟩; clear BK448 HB hq_; have BK448 := n0_; have HB := n1_; clear n0_ n1_)); (try have Zuz111 : w98.cell? ⟨gb448, 0, none⟩ = some (.int .i64 0) := (blk_cell BK448.out 0).trans rfl); (try have Yuz111 := blk_frozen BK448.out 0); (try have Zuz112 : w98.cell? ⟨gb448, 1, none⟩ = some (.int .i64 0) := (blk_cell BK448.out 1).trans rfl); (try have Yuz112 := blk_frozen BK448.out 1); (try have Zuz113 : w98.cell? ⟨gb448, 2, none⟩ = some (.float .f64 0) := (blk_cell BK448.out 2).trans rfl); (try have Yuz113 := blk_frozen BK448.out 2); (try have Zuz114 : w98.cell? ⟨gb448, 3, none⟩ = some (.string (⟨#[]⟩ : ByteArray)) := (blk_cell BK448.out 3).trans rfl); (try have Yuz114 := blk_frozen BK448.out 3); obtain ⟨Z115_0, Z115_1, Z115_2, Z115_3, Y115_0, Y115_1, Y115_2, Y115_3⟩ := bq4 BK448))
                    refine bodyPost_ret (results_ctt rfl _ _ gb448 50 #[.int .i64 0, .int .i64 0, .float .f64 0, .string (⟨#[]⟩ : ByteArray)] (0, 0) _ rfl (by refine rp ?_; refine blk_put (cs := #[.int .i64 0, .int .i64 0, .float .f64 0, .string (⟨#[]⟩ : ByteArray)]) ?_ 3 _ rfl; refine rp ?_; refine blk_put (cs := #[.int .i64 0, .int .i64 0, .float .f64 0, .string (⟨#[]⟩ : ByteArray)]) ?_ 2 _ rfl; refine rp ?_; refine blk_put (cs := #[.int .i64 0, .int .i64 0, .float .f64 0, .string (⟨#[]⟩ : ByteArray)]) ?_ 1 _ rfl; refine rp ?_; refine blk_put (cs := #[.int .i64 0, .int .i64 0, .float .f64 0, .string (⟨#[]⟩ : ByteArray)]) ?_ 0 _ rfl; exact bk BK448) Tryd.underlying50 rfl (by kernel_rfl)) rfl ?_
                    exact ⟨by first | rfl | (simp [errW_none, errW_some] <;> rfl) | (simp only [← hji17, ← hji19]; first | rfl | (simp [errW_none, errW_some] <;> rfl)) | (simp [*, errW_none, errW_some] <;> rfl), bl HB⟩
                · rw [if_neg c59] at H
                  have c59b0 : ((Go.bits .xor .u64 t455 (ji19)) == 0) = false := beq_eq_false_iff_ne.mpr c59
                  have c59b1 : ((Go.bits .xor .u64 t455 (ji19)) != 0) = true := bne_iff_ne.mpr c59
                  simp only [Option.some.injEq, Prod.mk.injEq] at H
                  obtain ⟨rfl, rfl, rfl, rfl, rfl, rfl⟩ := H
                  go_enter Tryd.func111, Tryd.ntmps111
                  go_wp2_with (first | ((with_reducible refine gate_dst (N := 2) rfl ?_); refine box_event rfl (N := 2) rfl (cs := #[.int .i64 0, .int .i64 0, .float .f64 0, .string (⟨#[]⟩ : ByteArray)]) (t := 50) gs ?_; intro gb448 hg w116 hbox hb; have BK448 := am (hbox); have GW448 := gw hg HB; have GE448 := gw hg HB; replace HB := sb HB hb; clear hb hbox hg) | ((with_reducible refine gate_callee (f := 110) rfl ?_); refine goesL_ (some 14) rfl rfl Tryd.func110 (by kernel_rfl) rfl #[.string a0, .int .i64 1] rfl ar ?_; (with_reducible refine (code_take.calls a0 1 t449 t450 true _ A2.out).mono ?_); rintro e w' ⟨rfl, ⟨nd, rfl⟩⟩; refine ⟨_, rfl, ?_⟩; (try (rw [drewN_self w116]; generalize hq_ : World.drewN w116 _ = w116; have n0_ : Aside0 (w116.heap[gb448]? = some (.cells #[.int .i64 0, .int .i64 0, .float .f64 0, .string (⟨#[]⟩ : ByteArray)] 50 (0, 0))) := ⟨by rw [← hq_]; exact (bk BK448)⟩; have n1_ : Aside0 (Below w.heap.size w w116) := ⟨by rw [← hq_]; exact (bl HB)⟩; clear BK448 HB hq_; have BK448 := n0_; have HB := n1_; clear n0_ n1_)); (try have Zuz117 : w116.cell? ⟨gb448, 0, none⟩ = some (.int .i64 0) := (blk_cell BK448.out 0).trans rfl); (try have Yuz117 := blk_frozen BK448.out 0); (try have Zuz118 : w116.cell? ⟨gb448, 1, none⟩ = some (.int .i64 0) := (blk_cell BK448.out 1).trans rfl); (try have Yuz118 := blk_frozen BK448.out 1); (try have Zuz119 : w116.cell? ⟨gb448, 2, none⟩ = some (.float .f64 0) := (blk_cell BK448.out 2).trans rfl); (try have Yuz119 := blk_frozen BK448.out 2); (try have Zuz120 : w116.cell? ⟨gb448, 3, none⟩ = some (.string (⟨#[]⟩ : ByteArray)) := (blk_cell BK448.out 3).trans rfl); (try have Yuz120 := blk_frozen BK448.out 3); have p5 : 0 ≤ (0 : Int) := (by omega); have q5 : 0 < t449.size := (by have : (0 : Int) < (t449.size : Int) := oda; omega); have hx5 : ∀ h : 0 < t449.size, ((t449[0]'h).toNat : Int) = bt t449 0 := bt_at t449 0; clear p5; have qi5 : (0 < (t449.size : Int)) = True := eq_true (oda); replace q5 := eq_true q5) | ((with_reducible refine gate_callee (f := 110) rfl ?_); refine goesL_ (some 36) rfl rfl Tryd.func110 (by kernel_rfl) rfl #[.string t450, .int .i64 (wrap64 (-(wrap64 ((wrap64 (bt t449 0)) - 128))))] rfl ar ?_; (with_reducible refine (code_take.calls t450 (wrap64 (-(wrap64 ((wrap64 (bt t449 0)) - 128)))) t452 t453 true _ A14.out).mono ?_); rintro e w' ⟨rfl, ⟨nd, rfl⟩⟩; refine ⟨_, rfl, ?_⟩; (try (rw [drewN_self w116]; generalize hq_ : World.drewN w116 _ = w116; have n0_ : Aside0 (w116.heap[gb448]? = some (.cells #[.int .i64 0, .int .i64 0, .float .f64 0, .string (⟨#[]⟩ : ByteArray)] 50 (0, 0))) := ⟨by rw [← hq_]; exact (bk BK448)⟩; have n1_ : Aside0 (Below w.heap.size w w116) := ⟨by rw [← hq_]; exact (bl HB)⟩; clear BK448 HB hq_; have BK448 := n0_; have HB := n1_; clear n0_ n1_)); (try have Zuz121 : w116.cell? ⟨gb448, 0, none⟩ = some (.int .i64 0) := (blk_cell BK448.out 0).trans rfl); (try have Yuz121 := blk_frozen BK448.out 0); (try have Zuz122 : w116.cell? ⟨gb448, 1, none⟩ = some (.int .i64 0) := (blk_cell BK448.out 1).trans rfl); (try have Yuz122 := blk_frozen BK448.out 1); (try have Zuz123 : w116.cell? ⟨gb448, 2, none⟩ = some (.float .f64 0) := (blk_cell BK448.out 2).trans rfl); (try have Yuz123 := blk_frozen BK448.out 2); (try have Zuz124 : w116.cell? ⟨gb448, 3, none⟩ = some (.string (⟨#[]⟩ : ByteArray)) := (blk_cell BK448.out 3).trans rfl); (try have Yuz124 := blk_frozen BK448.out 3)) | ((with_reducible refine gate_callee (f := 144) rfl ?_); refine goesL_ (some 44) rfl rfl Tryd.func144 (by kernel_rfl) rfl #[.string t452] rfl ar ?_; (with_reducible refine (code_number.calls k t452 t455 _ A16.out).mono ?_); rintro e w' ⟨rfl, ⟨nd, rfl⟩⟩; refine ⟨_, rfl, ?_⟩; (try (rw [drewN_self w116]; generalize hq_ : World.drewN w116 _ = w116; have n0_ : Aside0 (w116.heap[gb448]? = some (.cells #[.int .i64 0, .int .i64 0, .float .f64 0, .string (⟨#[]⟩ : ByteArray)] 50 (0, 0))) := ⟨by rw [← hq_]; exact (bk BK448)⟩; have n1_ : Aside0 (Below w.heap.size w w116) := ⟨by rw [← hq_]; exact (bl HB)⟩; clear BK448 HB hq_; have BK448 := n0_; have HB := n1_; clear n0_ n1_)); (try have Zuz125 : w116.cell? ⟨gb448, 0, none⟩ = some (.int .i64 0) := (blk_cell BK448.out 0).trans rfl); (try have Yuz125 := blk_frozen BK448.out 0); (try have Zuz126 : w116.cell? ⟨gb448, 1, none⟩ = some (.int .i64 0) := (blk_cell BK448.out 1).trans rfl); (try have Yuz126 := blk_frozen BK448.out 1); (try have Zuz127 : w116.cell? ⟨gb448, 2, none⟩ = some (.float .f64 0) := (blk_cell BK448.out 2).trans rfl); (try have Yuz127 := blk_frozen BK448.out 2); (try have Zuz128 : w116.cell? ⟨gb448, 3, none⟩ = some (.string (⟨#[]⟩ : ByteArray)) := (blk_cell BK448.out 3).trans rfl); (try have Yuz128 := blk_frozen BK448.out 3)) | ((with_reducible refine gate_callee (f := 138) rfl ?_); refine goesL_ (some 53) rfl rfl Tryd.func138 (by kernel_rfl) rfl #[.int .u64 (Go.bits .xor .u64 t455 (ji19))] rfl (by (try simp only [List.map_toArray, List.map_cons, List.map_nil]); first | done | (simp only [hji19]; rfl) | rfl | (simp only [List.length_drop, List.length_take]; rfl)) ?_; (with_reducible refine (code_size.calls (Go.bits .xor .u64 t455 (ji19)) t456 _ A20.out).mono ?_); rintro e w' ⟨rfl, ⟨nd, rfl⟩⟩; refine ⟨_, rfl, ?_⟩; (try (rw [drewN_self w116]; generalize hq_ : World.drewN w116 _ = w116; have n0_ : Aside0 (w116.heap[gb448]? = some (.cells #[.int .i64 0, .int .i64 0, .float .f64 0, .string (⟨#[]⟩ : ByteArray)] 50 (0, 0))) := ⟨by rw [← hq_]; exact (bk BK448)⟩; have n1_ : Aside0 (Below w.heap.size w w116) := ⟨by rw [← hq_]; exact (bl HB)⟩; clear BK448 HB hq_; have BK448 := n0_; have HB := n1_; clear n0_ n1_)); (try have Zuz129 : w116.cell? ⟨gb448, 0, none⟩ = some (.int .i64 0) := (blk_cell BK448.out 0).trans rfl); (try have Yuz129 := blk_frozen BK448.out 0); (try have Zuz130 : w116.cell? ⟨gb448, 1, none⟩ = some (.int .i64 0) := (blk_cell BK448.out 1).trans rfl); (try have Yuz130 := blk_frozen BK448.out 1); (try have Zuz131 : w116.cell? ⟨gb448, 2, none⟩ = some (.float .f64 0) := (blk_cell BK448.out 2).trans rfl); (try have Yuz131 := blk_frozen BK448.out 2); (try have Zuz132 : w116.cell? ⟨gb448, 3, none⟩ = some (.string (⟨#[]⟩ : ByteArray)) := (blk_cell BK448.out 3).trans rfl); (try have Yuz132 := blk_frozen BK448.out 3); obtain ⟨Z133_0, Z133_1, Z133_2, Z133_3, Y133_0, Y133_1, Y133_2, Y133_3⟩ := bq4 BK448))
                  refine bodyPost_ret (results_ctt rfl _ _ gb448 50 #[.int .i64 0, .int .i64 0, .float .f64 0, .string (⟨#[]⟩ : ByteArray)] (0, 0) _ rfl (by refine rp ?_; refine blk_put (cs := #[.int .i64 0, .int .i64 0, .float .f64 0, .string (⟨#[]⟩ : ByteArray)]) ?_ 3 _ rfl; refine rp ?_; refine blk_put (cs := #[.int .i64 0, .int .i64 0, .float .f64 0, .string (⟨#[]⟩ : ByteArray)]) ?_ 2 _ rfl; refine rp ?_; refine blk_put (cs := #[.int .i64 0, .int .i64 0, .float .f64 0, .string (⟨#[]⟩ : ByteArray)]) ?_ 1 _ rfl; refine rp ?_; refine blk_put (cs := #[.int .i64 0, .int .i64 0, .float .f64 0, .string (⟨#[]⟩ : ByteArray)]) ?_ 0 _ rfl; exact bk BK448) Tryd.underlying50 rfl (by kernel_rfl)) rfl ?_
                  exact ⟨by first | rfl | (simp [errW_none, errW_some] <;> rfl) | (simp only [← hji17, ← hji19]; first | rfl | (simp [errW_none, errW_some] <;> rfl)) | (simp [*, errW_none, errW_some] <;> rfl), bl HB⟩
            · rw [if_neg c18] at H
              exact absurd H (by simp)
          · replace c15 := Bool.eq_false_iff.mpr c15
            subst c15
            have H1 : (some (0, 0, 0, (⟨#[]⟩ : ByteArray), (⟨#[]⟩ : ByteArray), false)) = some (r1, r2, r3, r4, r5, r6) := by rw [if_neg (show ¬ (false = true) by decide)] at H; exact H
            clear H
            have H := H1
            clear H1
            simp only [Option.some.injEq, Prod.mk.injEq] at H
            obtain ⟨rfl, rfl, rfl, rfl, rfl, rfl⟩ := H
            go_enter Tryd.func111, Tryd.ntmps111
            go_wp2_with (first | ((with_reducible refine gate_dst (N := 2) rfl ?_); refine box_event rfl (N := 2) rfl (cs := #[.int .i64 0, .int .i64 0, .float .f64 0, .string (⟨#[]⟩ : ByteArray)]) (t := 50) gs ?_; intro gb448 hg w134 hbox hb; have BK448 := am (hbox); have GW448 := gw hg HB; have GE448 := gw hg HB; replace HB := sb HB hb; clear hb hbox hg) | ((with_reducible refine gate_callee (f := 110) rfl ?_); refine goesL_ (some 14) rfl rfl Tryd.func110 (by kernel_rfl) rfl #[.string a0, .int .i64 1] rfl ar ?_; (with_reducible refine (code_take.calls a0 1 t449 t450 true _ A2.out).mono ?_); rintro e w' ⟨rfl, ⟨nd, rfl⟩⟩; refine ⟨_, rfl, ?_⟩; (try (rw [drewN_self w134]; generalize hq_ : World.drewN w134 _ = w134; have n0_ : Aside0 (w134.heap[gb448]? = some (.cells #[.int .i64 0, .int .i64 0, .float .f64 0, .string (⟨#[]⟩ : ByteArray)] 50 (0, 0))) := ⟨by rw [← hq_]; exact (bk BK448)⟩; have n1_ : Aside0 (Below w.heap.size w w134) := ⟨by rw [← hq_]; exact (bl HB)⟩; clear BK448 HB hq_; have BK448 := n0_; have HB := n1_; clear n0_ n1_)); (try have Zuz135 : w134.cell? ⟨gb448, 0, none⟩ = some (.int .i64 0) := (blk_cell BK448.out 0).trans rfl); (try have Yuz135 := blk_frozen BK448.out 0); (try have Zuz136 : w134.cell? ⟨gb448, 1, none⟩ = some (.int .i64 0) := (blk_cell BK448.out 1).trans rfl); (try have Yuz136 := blk_frozen BK448.out 1); (try have Zuz137 : w134.cell? ⟨gb448, 2, none⟩ = some (.float .f64 0) := (blk_cell BK448.out 2).trans rfl); (try have Yuz137 := blk_frozen BK448.out 2); (try have Zuz138 : w134.cell? ⟨gb448, 3, none⟩ = some (.string (⟨#[]⟩ : ByteArray)) := (blk_cell BK448.out 3).trans rfl); (try have Yuz138 := blk_frozen BK448.out 3); have p5 : 0 ≤ (0 : Int) := (by omega); have q5 : 0 < t449.size := (by have : (0 : Int) < (t449.size : Int) := oda; omega); have hx5 : ∀ h : 0 < t449.size, ((t449[0]'h).toNat : Int) = bt t449 0 := bt_at t449 0; clear p5; have qi5 : (0 < (t449.size : Int)) = True := eq_true (oda); replace q5 := eq_true q5) | ((with_reducible refine gate_callee (f := 110) rfl ?_); refine goesL_ (some 36) rfl rfl Tryd.func110 (by kernel_rfl) rfl #[.string t450, .int .i64 (wrap64 (-(wrap64 ((wrap64 (bt t449 0)) - 128))))] rfl ar ?_; (with_reducible refine (code_take.calls t450 (wrap64 (-(wrap64 ((wrap64 (bt t449 0)) - 128)))) t452 t453 false _ A14.out).mono ?_); rintro e w' ⟨rfl, ⟨nd, rfl⟩⟩; refine ⟨_, rfl, ?_⟩; (try (rw [drewN_self w134]; generalize hq_ : World.drewN w134 _ = w134; have n0_ : Aside0 (w134.heap[gb448]? = some (.cells #[.int .i64 0, .int .i64 0, .float .f64 0, .string (⟨#[]⟩ : ByteArray)] 50 (0, 0))) := ⟨by rw [← hq_]; exact (bk BK448)⟩; have n1_ : Aside0 (Below w.heap.size w w134) := ⟨by rw [← hq_]; exact (bl HB)⟩; clear BK448 HB hq_; have BK448 := n0_; have HB := n1_; clear n0_ n1_)); (try have Zuz139 : w134.cell? ⟨gb448, 0, none⟩ = some (.int .i64 0) := (blk_cell BK448.out 0).trans rfl); (try have Yuz139 := blk_frozen BK448.out 0); (try have Zuz140 : w134.cell? ⟨gb448, 1, none⟩ = some (.int .i64 0) := (blk_cell BK448.out 1).trans rfl); (try have Yuz140 := blk_frozen BK448.out 1); (try have Zuz141 : w134.cell? ⟨gb448, 2, none⟩ = some (.float .f64 0) := (blk_cell BK448.out 2).trans rfl); (try have Yuz141 := blk_frozen BK448.out 2); (try have Zuz142 : w134.cell? ⟨gb448, 3, none⟩ = some (.string (⟨#[]⟩ : ByteArray)) := (blk_cell BK448.out 3).trans rfl); (try have Yuz142 := blk_frozen BK448.out 3); obtain ⟨Z143_0, Z143_1, Z143_2, Z143_3, Y143_0, Y143_1, Y143_2, Y143_3⟩ := bq4 BK448))
            refine bodyPost_ret (results_ctt rfl _ _ gb448 50 #[.int .i64 0, .int .i64 0, .float .f64 0, .string (⟨#[]⟩ : ByteArray)] (0, 0) _ rfl (by refine rp ?_; refine blk_put (cs := #[.int .i64 0, .int .i64 0, .float .f64 0, .string (⟨#[]⟩ : ByteArray)]) ?_ 3 _ rfl; refine rp ?_; refine blk_put (cs := #[.int .i64 0, .int .i64 0, .float .f64 0, .string (⟨#[]⟩ : ByteArray)]) ?_ 2 _ rfl; refine rp ?_; refine blk_put (cs := #[.int .i64 0, .int .i64 0, .float .f64 0, .string (⟨#[]⟩ : ByteArray)]) ?_ 1 _ rfl; refine rp ?_; refine blk_put (cs := #[.int .i64 0, .int .i64 0, .float .f64 0, .string (⟨#[]⟩ : ByteArray)]) ?_ 0 _ rfl; exact bk BK448) Tryd.underlying50 rfl (by kernel_rfl)) rfl ?_
            exact ⟨er, bl HB⟩
      · rw [if_neg c6] at H
        have c6b0 : decide ((wrap64 ((wrap64 (bt t449 0)) - 128)) < 0) = false := decide_eq_false c6
        clear c6
        by_cases c144 : (wrap64 ((wrap64 (bt t449 0)) - 128)) > 8
        · rw [if_pos c144] at H
          have c144b0 : decide (8 < (wrap64 ((wrap64 (bt t449 0)) - 128))) = true := decide_eq_true c144
          clear c144
          simp only [Option.some.injEq, Prod.mk.injEq] at H
          obtain ⟨rfl, rfl, rfl, rfl, rfl, rfl⟩ := H
          go_enter Tryd.func111, Tryd.ntmps111
          go_wp2_with (first | ((with_reducible refine gate_dst (N := 2) rfl ?_); refine box_event rfl (N := 2) rfl (cs := #[.int .i64 0, .int .i64 0, .float .f64 0, .string (⟨#[]⟩ : ByteArray)]) (t := 50) gs ?_; intro gb448 hg w145 hbox hb; have BK448 := am (hbox); have GW448 := gw hg HB; have GE448 := gw hg HB; replace HB := sb HB hb; clear hb hbox hg) | ((with_reducible refine gate_callee (f := 110) rfl ?_); refine goesL_ (some 14) rfl rfl Tryd.func110 (by kernel_rfl) rfl #[.string a0, .int .i64 1] rfl ar ?_; (with_reducible refine (code_take.calls a0 1 t449 t450 true _ A2.out).mono ?_); rintro e w' ⟨rfl, ⟨nd, rfl⟩⟩; refine ⟨_, rfl, ?_⟩; (try (rw [drewN_self w145]; generalize hq_ : World.drewN w145 _ = w145; have n0_ : Aside0 (w145.heap[gb448]? = some (.cells #[.int .i64 0, .int .i64 0, .float .f64 0, .string (⟨#[]⟩ : ByteArray)] 50 (0, 0))) := ⟨by rw [← hq_]; exact (bk BK448)⟩; have n1_ : Aside0 (Below w.heap.size w w145) := ⟨by rw [← hq_]; exact (bl HB)⟩; clear BK448 HB hq_; have BK448 := n0_; have HB := n1_; clear n0_ n1_)); (try have Zuz146 : w145.cell? ⟨gb448, 0, none⟩ = some (.int .i64 0) := (blk_cell BK448.out 0).trans rfl); (try have Yuz146 := blk_frozen BK448.out 0); (try have Zuz147 : w145.cell? ⟨gb448, 1, none⟩ = some (.int .i64 0) := (blk_cell BK448.out 1).trans rfl); (try have Yuz147 := blk_frozen BK448.out 1); (try have Zuz148 : w145.cell? ⟨gb448, 2, none⟩ = some (.float .f64 0) := (blk_cell BK448.out 2).trans rfl); (try have Yuz148 := blk_frozen BK448.out 2); (try have Zuz149 : w145.cell? ⟨gb448, 3, none⟩ = some (.string (⟨#[]⟩ : ByteArray)) := (blk_cell BK448.out 3).trans rfl); (try have Yuz149 := blk_frozen BK448.out 3); have p5 : 0 ≤ (0 : Int) := (by omega); have q5 : 0 < t449.size := (by have : (0 : Int) < (t449.size : Int) := oda; omega); have hx5 : ∀ h : 0 < t449.size, ((t449[0]'h).toNat : Int) = bt t449 0 := bt_at t449 0; clear p5; have qi5 : (0 < (t449.size : Int)) = True := eq_true (oda); replace q5 := eq_true q5; obtain ⟨Z150_0, Z150_1, Z150_2, Z150_3, Y150_0, Y150_1, Y150_2, Y150_3⟩ := bq4 BK448))
          refine bodyPost_ret (results_ctt rfl _ _ gb448 50 #[.int .i64 0, .int .i64 0, .float .f64 0, .string (⟨#[]⟩ : ByteArray)] (0, 0) _ rfl (by refine rp ?_; refine blk_put (cs := #[.int .i64 0, .int .i64 0, .float .f64 0, .string (⟨#[]⟩ : ByteArray)]) ?_ 3 _ rfl; refine rp ?_; refine blk_put (cs := #[.int .i64 0, .int .i64 0, .float .f64 0, .string (⟨#[]⟩ : ByteArray)]) ?_ 2 _ rfl; refine rp ?_; refine blk_put (cs := #[.int .i64 0, .int .i64 0, .float .f64 0, .string (⟨#[]⟩ : ByteArray)]) ?_ 1 _ rfl; refine rp ?_; refine blk_put (cs := #[.int .i64 0, .int .i64 0, .float .f64 0, .string (⟨#[]⟩ : ByteArray)]) ?_ 0 _ rfl; exact bk BK448) Tryd.underlying50 rfl (by kernel_rfl)) rfl ?_
          exact ⟨er, bl HB⟩
        · rw [if_neg c144] at H
          have c144b0 : decide (8 < (wrap64 ((wrap64 (bt t449 0)) - 128))) = false := decide_eq_false c144
          clear c144
          replace H := Option.bind_eq_some_iff.mp H
          obtain ⟨⟨t457, t458, t459⟩, A1510, H⟩ := H
          replace H : (if t459 = true then ((code_number.f k t457).bind fun t460 => ((code_size.f t460).bind fun t461 => (if t461 = (wrap64 ((wrap64 (bt t449 0)) - 128)) then (if t460 > 9223372036854775807 then (some (0, 0, 0, (⟨#[]⟩ : ByteArray), (⟨#[]⟩ : ByteArray), false)) else (some (2, wrap64 (t460), 0, (⟨#[]⟩ : ByteArray), t458, true))) else (some (0, 0, 0, (⟨#[]⟩ : ByteArray), (⟨#[]⟩ : ByteArray), false))))) else (some (0, 0, 0, (⟨#[]⟩ : ByteArray), (⟨#[]⟩ : ByteArray), false))) = some (r1, r2, r3, r4, r5, r6) := H
          have A151 := am A1510
          clear A1510
          by_cases c152 : t459 = true
          · subst c152
            have H1 : ((code_number.f k t457).bind fun t460 => ((code_size.f t460).bind fun t461 => (if t461 = (wrap64 ((wrap64 (bt t449 0)) - 128)) then (if t460 > 9223372036854775807 then (some (0, 0, 0, (⟨#[]⟩ : ByteArray), (⟨#[]⟩ : ByteArray), false)) else (some (2, wrap64 (t460), 0, (⟨#[]⟩ : ByteArray), t458, true))) else (some (0, 0, 0, (⟨#[]⟩ : ByteArray), (⟨#[]⟩ : ByteArray), false))))) = some (r1, r2, r3, r4, r5, r6) := by rw [if_pos rfl] at H; exact H
            clear H
            have H := H1
            clear H1
            replace H := Option.bind_eq_some_iff.mp H
            obtain ⟨t460, A1530, H⟩ := H
            replace H : ((code_size.f t460).bind fun t461 => (if t461 = (wrap64 ((wrap64 (bt t449 0)) - 128)) then (if t460 > 9223372036854775807 then (some (0, 0, 0, (⟨#[]⟩ : ByteArray), (⟨#[]⟩ : ByteArray), false)) else (some (2, wrap64 (t460), 0, (⟨#[]⟩ : ByteArray), t458, true))) else (some (0, 0, 0, (⟨#[]⟩ : ByteArray), (⟨#[]⟩ : ByteArray), false)))) = some (r1, r2, r3, r4, r5, r6) := H
            have A153 := am A1530
            clear A1530
            replace H := Option.bind_eq_some_iff.mp H
            obtain ⟨t461, A1540, H⟩ := H
            replace H : (if t461 = (wrap64 ((wrap64 (bt t449 0)) - 128)) then (if t460 > 9223372036854775807 then (some (0, 0, 0, (⟨#[]⟩ : ByteArray), (⟨#[]⟩ : ByteArray), false)) else (some (2, wrap64 (t460), 0, (⟨#[]⟩ : ByteArray), t458, true))) else (some (0, 0, 0, (⟨#[]⟩ : ByteArray), (⟨#[]⟩ : ByteArray), false))) = some (r1, r2, r3, r4, r5, r6) := H
            have A154 := am A1540
            clear A1540
            by_cases c155 : t461 = (wrap64 ((wrap64 (bt t449 0)) - 128))
            · rw [if_pos c155] at H
              have c155b0 : (t461 == (wrap64 ((wrap64 (bt t449 0)) - 128))) = true := beq_iff_eq.mpr c155
              have c155b1 : (t461 != (wrap64 ((wrap64 (bt t449 0)) - 128))) = false := bne_eq_false_iff_eq.mpr c155
              clear c155
              by_cases c156 : t460 > 9223372036854775807
              · rw [if_pos c156] at H
                have c156b0 : decide (9223372036854775807 < t460) = true := decide_eq_true c156
                clear c156
                simp only [Option.some.injEq, Prod.mk.injEq] at H
                obtain ⟨rfl, rfl, rfl, rfl, rfl, rfl⟩ := H
                go_enter Tryd.func111, Tryd.ntmps111
                go_wp2_with (first | ((with_reducible refine gate_dst (N := 2) rfl ?_); refine box_event rfl (N := 2) rfl (cs := #[.int .i64 0, .int .i64 0, .float .f64 0, .string (⟨#[]⟩ : ByteArray)]) (t := 50) gs ?_; intro gb448 hg w157 hbox hb; have BK448 := am (hbox); have GW448 := gw hg HB; have GE448 := gw hg HB; replace HB := sb HB hb; clear hb hbox hg) | ((with_reducible refine gate_callee (f := 110) rfl ?_); refine goesL_ (some 14) rfl rfl Tryd.func110 (by kernel_rfl) rfl #[.string a0, .int .i64 1] rfl ar ?_; (with_reducible refine (code_take.calls a0 1 t449 t450 true _ A2.out).mono ?_); rintro e w' ⟨rfl, ⟨nd, rfl⟩⟩; refine ⟨_, rfl, ?_⟩; (try (rw [drewN_self w157]; generalize hq_ : World.drewN w157 _ = w157; have n0_ : Aside0 (w157.heap[gb448]? = some (.cells #[.int .i64 0, .int .i64 0, .float .f64 0, .string (⟨#[]⟩ : ByteArray)] 50 (0, 0))) := ⟨by rw [← hq_]; exact (bk BK448)⟩; have n1_ : Aside0 (Below w.heap.size w w157) := ⟨by rw [← hq_]; exact (bl HB)⟩; clear BK448 HB hq_; have BK448 := n0_; have HB := n1_; clear n0_ n1_)); (try have Zuz158 : w157.cell? ⟨gb448, 0, none⟩ = some (.int .i64 0) := (blk_cell BK448.out 0).trans rfl); (try have Yuz158 := blk_frozen BK448.out 0); (try have Zuz159 : w157.cell? ⟨gb448, 1, none⟩ = some (.int .i64 0) := (blk_cell BK448.out 1).trans rfl); (try have Yuz159 := blk_frozen BK448.out 1); (try have Zuz160 : w157.cell? ⟨gb448, 2, none⟩ = some (.float .f64 0) := (blk_cell BK448.out 2).trans rfl); (try have Yuz160 := blk_frozen BK448.out 2); (try have Zuz161 : w157.cell? ⟨gb448, 3, none⟩ = some (.string (⟨#[]⟩ : ByteArray)) := (blk_cell BK448.out 3).trans rfl); (try have Yuz161 := blk_frozen BK448.out 3); have p5 : 0 ≤ (0 : Int) := (by omega); have q5 : 0 < t449.size := (by have : (0 : Int) < (t449.size : Int) := oda; omega); have hx5 : ∀ h : 0 < t449.size, ((t449[0]'h).toNat : Int) = bt t449 0 := bt_at t449 0; clear p5; have qi5 : (0 < (t449.size : Int)) = True := eq_true (oda); replace q5 := eq_true q5) | ((with_reducible refine gate_callee (f := 110) rfl ?_); refine goesL_ (some 36) rfl rfl Tryd.func110 (by kernel_rfl) rfl #[.string t450, .int .i64 (wrap64 ((wrap64 (bt t449 0)) - 128))] rfl ar ?_; (with_reducible refine (code_take.calls t450 (wrap64 ((wrap64 (bt t449 0)) - 128)) t457 t458 true _ A151.out).mono ?_); rintro e w' ⟨rfl, ⟨nd, rfl⟩⟩; refine ⟨_, rfl, ?_⟩; (try (rw [drewN_self w157]; generalize hq_ : World.drewN w157 _ = w157; have n0_ : Aside0 (w157.heap[gb448]? = some (.cells #[.int .i64 0, .int .i64 0, .float .f64 0, .string (⟨#[]⟩ : ByteArray)] 50 (0, 0))) := ⟨by rw [← hq_]; exact (bk BK448)⟩; have n1_ : Aside0 (Below w.heap.size w w157) := ⟨by rw [← hq_]; exact (bl HB)⟩; clear BK448 HB hq_; have BK448 := n0_; have HB := n1_; clear n0_ n1_)); (try have Zuz162 : w157.cell? ⟨gb448, 0, none⟩ = some (.int .i64 0) := (blk_cell BK448.out 0).trans rfl); (try have Yuz162 := blk_frozen BK448.out 0); (try have Zuz163 : w157.cell? ⟨gb448, 1, none⟩ = some (.int .i64 0) := (blk_cell BK448.out 1).trans rfl); (try have Yuz163 := blk_frozen BK448.out 1); (try have Zuz164 : w157.cell? ⟨gb448, 2, none⟩ = some (.float .f64 0) := (blk_cell BK448.out 2).trans rfl); (try have Yuz164 := blk_frozen BK448.out 2); (try have Zuz165 : w157.cell? ⟨gb448, 3, none⟩ = some (.string (⟨#[]⟩ : ByteArray)) := (blk_cell BK448.out 3).trans rfl); (try have Yuz165 := blk_frozen BK448.out 3)) | ((with_reducible refine gate_callee (f := 144) rfl ?_); refine goesL_ (some 44) rfl rfl Tryd.func144 (by kernel_rfl) rfl #[.string t457] rfl ar ?_; (with_reducible refine (code_number.calls k t457 t460 _ A153.out).mono ?_); rintro e w' ⟨rfl, ⟨nd, rfl⟩⟩; refine ⟨_, rfl, ?_⟩; (try (rw [drewN_self w157]; generalize hq_ : World.drewN w157 _ = w157; have n0_ : Aside0 (w157.heap[gb448]? = some (.cells #[.int .i64 0, .int .i64 0, .float .f64 0, .string (⟨#[]⟩ : ByteArray)] 50 (0, 0))) := ⟨by rw [← hq_]; exact (bk BK448)⟩; have n1_ : Aside0 (Below w.heap.size w w157) := ⟨by rw [← hq_]; exact (bl HB)⟩; clear BK448 HB hq_; have BK448 := n0_; have HB := n1_; clear n0_ n1_)); (try have Zuz166 : w157.cell? ⟨gb448, 0, none⟩ = some (.int .i64 0) := (blk_cell BK448.out 0).trans rfl); (try have Yuz166 := blk_frozen BK448.out 0); (try have Zuz167 : w157.cell? ⟨gb448, 1, none⟩ = some (.int .i64 0) := (blk_cell BK448.out 1).trans rfl); (try have Yuz167 := blk_frozen BK448.out 1); (try have Zuz168 : w157.cell? ⟨gb448, 2, none⟩ = some (.float .f64 0) := (blk_cell BK448.out 2).trans rfl); (try have Yuz168 := blk_frozen BK448.out 2); (try have Zuz169 : w157.cell? ⟨gb448, 3, none⟩ = some (.string (⟨#[]⟩ : ByteArray)) := (blk_cell BK448.out 3).trans rfl); (try have Yuz169 := blk_frozen BK448.out 3)) | ((with_reducible refine gate_callee (f := 138) rfl ?_); refine goesL_ (some 53) rfl rfl Tryd.func138 (by kernel_rfl) rfl #[.int .u64 t460] rfl ar ?_; (with_reducible refine (code_size.calls t460 t461 _ A154.out).mono ?_); rintro e w' ⟨rfl, ⟨nd, rfl⟩⟩; refine ⟨_, rfl, ?_⟩; (try (rw [drewN_self w157]; generalize hq_ : World.drewN w157 _ = w157; have n0_ : Aside0 (w157.heap[gb448]? = some (.cells #[.int .i64 0, .int .i64 0, .float .f64 0, .string (⟨#[]⟩ : ByteArray)] 50 (0, 0))) := ⟨by rw [← hq_]; exact (bk BK448)⟩; have n1_ : Aside0 (Below w.heap.size w w157) := ⟨by rw [← hq_]; exact (bl HB)⟩; clear BK448 HB hq_; have BK448 := n0_; have HB := n1_; clear n0_ n1_)); (try have Zuz170 : w157.cell? ⟨gb448, 0, none⟩ = some (.int .i64 0) := (blk_cell BK448.out 0).trans rfl); (try have Yuz170 := blk_frozen BK448.out 0); (try have Zuz171 : w157.cell? ⟨gb448, 1, none⟩ = some (.int .i64 0) := (blk_cell BK448.out 1).trans rfl); (try have Yuz171 := blk_frozen BK448.out 1); (try have Zuz172 : w157.cell? ⟨gb448, 2, none⟩ = some (.float .f64 0) := (blk_cell BK448.out 2).trans rfl); (try have Yuz172 := blk_frozen BK448.out 2); (try have Zuz173 : w157.cell? ⟨gb448, 3, none⟩ = some (.string (⟨#[]⟩ : ByteArray)) := (blk_cell BK448.out 3).trans rfl); (try have Yuz173 := blk_frozen BK448.out 3); obtain ⟨Z174_0, Z174_1, Z174_2, Z174_3, Y174_0, Y174_1, Y174_2, Y174_3⟩ := bq4 BK448))
                refine bodyPost_ret (results_ctt rfl _ _ gb448 50 #[.int .i64 0, .int .i64 0, .float .f64 0, .string (⟨#[]⟩ : ByteArray)] (0, 0) _ rfl (by refine rp ?_; refine blk_put (cs := #[.int .i64 0, .int .i64 0, .float .f64 0, .string (⟨#[]⟩ : ByteArray)]) ?_ 3 _ rfl; refine rp ?_; refine blk_put (cs := #[.int .i64 0, .int .i64 0, .float .f64 0, .string (⟨#[]⟩ : ByteArray)]) ?_ 2 _ rfl; refine rp ?_; refine blk_put (cs := #[.int .i64 0, .int .i64 0, .float .f64 0, .string (⟨#[]⟩ : ByteArray)]) ?_ 1 _ rfl; refine rp ?_; refine blk_put (cs := #[.int .i64 0, .int .i64 0, .float .f64 0, .string (⟨#[]⟩ : ByteArray)]) ?_ 0 _ rfl; exact bk BK448) Tryd.underlying50 rfl (by kernel_rfl)) rfl ?_
                exact ⟨er, bl HB⟩
              · rw [if_neg c156] at H
                have c156b0 : decide (9223372036854775807 < t460) = false := decide_eq_false c156
                clear c156
                simp only [Option.some.injEq, Prod.mk.injEq] at H
                obtain ⟨rfl, rfl, rfl, rfl, rfl, rfl⟩ := H
                go_enter Tryd.func111, Tryd.ntmps111
                go_wp2_with (first | ((with_reducible refine gate_dst (N := 2) rfl ?_); refine box_event rfl (N := 2) rfl (cs := #[.int .i64 0, .int .i64 0, .float .f64 0, .string (⟨#[]⟩ : ByteArray)]) (t := 50) gs ?_; intro gb448 hg w175 hbox hb; have BK448 := am (hbox); have GW448 := gw hg HB; have GE448 := gw hg HB; replace HB := sb HB hb; clear hb hbox hg) | ((with_reducible refine gate_callee (f := 110) rfl ?_); refine goesL_ (some 14) rfl rfl Tryd.func110 (by kernel_rfl) rfl #[.string a0, .int .i64 1] rfl ar ?_; (with_reducible refine (code_take.calls a0 1 t449 t450 true _ A2.out).mono ?_); rintro e w' ⟨rfl, ⟨nd, rfl⟩⟩; refine ⟨_, rfl, ?_⟩; (try (rw [drewN_self w175]; generalize hq_ : World.drewN w175 _ = w175; have n0_ : Aside0 (w175.heap[gb448]? = some (.cells #[.int .i64 0, .int .i64 0, .float .f64 0, .string (⟨#[]⟩ : ByteArray)] 50 (0, 0))) := ⟨by rw [← hq_]; exact (bk BK448)⟩; have n1_ : Aside0 (Below w.heap.size w w175) := ⟨by rw [← hq_]; exact (bl HB)⟩; clear BK448 HB hq_; have BK448 := n0_; have HB := n1_; clear n0_ n1_)); (try have Zuz176 : w175.cell? ⟨gb448, 0, none⟩ = some (.int .i64 0) := (blk_cell BK448.out 0).trans rfl); (try have Yuz176 := blk_frozen BK448.out 0); (try have Zuz177 : w175.cell? ⟨gb448, 1, none⟩ = some (.int .i64 0) := (blk_cell BK448.out 1).trans rfl); (try have Yuz177 := blk_frozen BK448.out 1); (try have Zuz178 : w175.cell? ⟨gb448, 2, none⟩ = some (.float .f64 0) := (blk_cell BK448.out 2).trans rfl); (try have Yuz178 := blk_frozen BK448.out 2); (try have Zuz179 : w175.cell? ⟨gb448, 3, none⟩ = some (.string (⟨#[]⟩ : ByteArray)) := (blk_cell BK448.out 3).trans rfl); (try have Yuz179 := blk_frozen BK448.out 3); have p5 : 0 ≤ (0 : Int) := (by omega); have q5 : 0 < t449.size := (by have : (0 : Int) < (t449.size : Int) := oda; omega); have hx5 : ∀ h : 0 < t449.size, ((t449[0]'h).toNat : Int) = bt t449 0 := bt_at t449 0; clear p5; have qi5 : (0 < (t449.size : Int)) = True := eq_true (oda); replace q5 := eq_true q5) | ((with_reducible refine gate_callee (f := 110) rfl ?_); refine goesL_ (some 36) rfl rfl Tryd.func110 (by kernel_rfl) rfl #[.string t450, .int .i64 (wrap64 ((wrap64 (bt t449 0)) - 128))] rfl ar ?_; (with_reducible refine (code_take.calls t450 (wrap64 ((wrap64 (bt t449 0)) - 128)) t457 t458 true _ A151.out).mono ?_); rintro e w' ⟨rfl, ⟨nd, rfl⟩⟩; refine ⟨_, rfl, ?_⟩; (try (rw [drewN_self w175]; generalize hq_ : World.drewN w175 _ = w175; have n0_ : Aside0 (w175.heap[gb448]? = some (.cells #[.int .i64 0, .int .i64 0, .float .f64 0, .string (⟨#[]⟩ : ByteArray)] 50 (0, 0))) := ⟨by rw [← hq_]; exact (bk BK448)⟩; have n1_ : Aside0 (Below w.heap.size w w175) := ⟨by rw [← hq_]; exact (bl HB)⟩; clear BK448 HB hq_; have BK448 := n0_; have HB := n1_; clear n0_ n1_)); (try have Zuz180 : w175.cell? ⟨gb448, 0, none⟩ = some (.int .i64 0) := (blk_cell BK448.out 0).trans rfl); (try have Yuz180 := blk_frozen BK448.out 0); (try have Zuz181 : w175.cell? ⟨gb448, 1, none⟩ = some (.int .i64 0) := (blk_cell BK448.out 1).trans rfl); (try have Yuz181 := blk_frozen BK448.out 1); (try have Zuz182 : w175.cell? ⟨gb448, 2, none⟩ = some (.float .f64 0) := (blk_cell BK448.out 2).trans rfl); (try have Yuz182 := blk_frozen BK448.out 2); (try have Zuz183 : w175.cell? ⟨gb448, 3, none⟩ = some (.string (⟨#[]⟩ : ByteArray)) := (blk_cell BK448.out 3).trans rfl); (try have Yuz183 := blk_frozen BK448.out 3)) | ((with_reducible refine gate_callee (f := 144) rfl ?_); refine goesL_ (some 44) rfl rfl Tryd.func144 (by kernel_rfl) rfl #[.string t457] rfl ar ?_; (with_reducible refine (code_number.calls k t457 t460 _ A153.out).mono ?_); rintro e w' ⟨rfl, ⟨nd, rfl⟩⟩; refine ⟨_, rfl, ?_⟩; (try (rw [drewN_self w175]; generalize hq_ : World.drewN w175 _ = w175; have n0_ : Aside0 (w175.heap[gb448]? = some (.cells #[.int .i64 0, .int .i64 0, .float .f64 0, .string (⟨#[]⟩ : ByteArray)] 50 (0, 0))) := ⟨by rw [← hq_]; exact (bk BK448)⟩; have n1_ : Aside0 (Below w.heap.size w w175) := ⟨by rw [← hq_]; exact (bl HB)⟩; clear BK448 HB hq_; have BK448 := n0_; have HB := n1_; clear n0_ n1_)); (try have Zuz184 : w175.cell? ⟨gb448, 0, none⟩ = some (.int .i64 0) := (blk_cell BK448.out 0).trans rfl); (try have Yuz184 := blk_frozen BK448.out 0); (try have Zuz185 : w175.cell? ⟨gb448, 1, none⟩ = some (.int .i64 0) := (blk_cell BK448.out 1).trans rfl); (try have Yuz185 := blk_frozen BK448.out 1); (try have Zuz186 : w175.cell? ⟨gb448, 2, none⟩ = some (.float .f64 0) := (blk_cell BK448.out 2).trans rfl); (try have Yuz186 := blk_frozen BK448.out 2); (try have Zuz187 : w175.cell? ⟨gb448, 3, none⟩ = some (.string (⟨#[]⟩ : ByteArray)) := (blk_cell BK448.out 3).trans rfl); (try have Yuz187 := blk_frozen BK448.out 3)) | ((with_reducible refine gate_callee (f := 138) rfl ?_); refine goesL_ (some 53) rfl rfl Tryd.func138 (by kernel_rfl) rfl #[.int .u64 t460] rfl ar ?_; (with_reducible refine (code_size.calls t460 t461 _ A154.out).mono ?_); rintro e w' ⟨rfl, ⟨nd, rfl⟩⟩; refine ⟨_, rfl, ?_⟩; (try (rw [drewN_self w175]; generalize hq_ : World.drewN w175 _ = w175; have n0_ : Aside0 (w175.heap[gb448]? = some (.cells #[.int .i64 0, .int .i64 0, .float .f64 0, .string (⟨#[]⟩ : ByteArray)] 50 (0, 0))) := ⟨by rw [← hq_]; exact (bk BK448)⟩; have n1_ : Aside0 (Below w.heap.size w w175) := ⟨by rw [← hq_]; exact (bl HB)⟩; clear BK448 HB hq_; have BK448 := n0_; have HB := n1_; clear n0_ n1_)); (try have Zuz188 : w175.cell? ⟨gb448, 0, none⟩ = some (.int .i64 0) := (blk_cell BK448.out 0).trans rfl); (try have Yuz188 := blk_frozen BK448.out 0); (try have Zuz189 : w175.cell? ⟨gb448, 1, none⟩ = some (.int .i64 0) := (blk_cell BK448.out 1).trans rfl); (try have Yuz189 := blk_frozen BK448.out 1); (try have Zuz190 : w175.cell? ⟨gb448, 2, none⟩ = some (.float .f64 0) := (blk_cell BK448.out 2).trans rfl); (try have Yuz190 := blk_frozen BK448.out 2); (try have Zuz191 : w175.cell? ⟨gb448, 3, none⟩ = some (.string (⟨#[]⟩ : ByteArray)) := (blk_cell BK448.out 3).trans rfl); (try have Yuz191 := blk_frozen BK448.out 3); obtain ⟨Z192_0, Z192_1, Z192_2, Z192_3, Y192_0, Y192_1, Y192_2, Y192_3⟩ := bq4 BK448))
                refine bodyPost_ret (results_ctt rfl _ _ gb448 50 #[.int .i64 2, .int .i64 (wrap64 (t460)), .float .f64 0, .string (⟨#[]⟩ : ByteArray)] (0, 0) _ rfl (by refine rp ?_; refine blk_put (cs := #[.int .i64 2, .int .i64 (wrap64 (t460)), .float .f64 0, .string (⟨#[]⟩ : ByteArray)]) ?_ 3 _ rfl; refine rp ?_; refine blk_put (cs := #[.int .i64 2, .int .i64 (wrap64 (t460)), .float .f64 0, .string (⟨#[]⟩ : ByteArray)]) ?_ 2 _ rfl; refine rp ?_; refine blk_put (cs := #[.int .i64 2, .int .i64 0, .float .f64 0, .string (⟨#[]⟩ : ByteArray)]) ?_ 1 _ rfl; refine rp ?_; refine blk_put (cs := #[.int .i64 0, .int .i64 0, .float .f64 0, .string (⟨#[]⟩ : ByteArray)]) ?_ 0 _ rfl; exact bk BK448) Tryd.underlying50 rfl (by kernel_rfl)) rfl ?_
                exact ⟨er, bl HB⟩
            · rw [if_neg c155] at H
              have c155b0 : (t461 == (wrap64 ((wrap64 (bt t449 0)) - 128))) = false := beq_eq_false_iff_ne.mpr c155
              have c155b1 : (t461 != (wrap64 ((wrap64 (bt t449 0)) - 128))) = true := bne_iff_ne.mpr c155
              simp only [Option.some.injEq, Prod.mk.injEq] at H
              obtain ⟨rfl, rfl, rfl, rfl, rfl, rfl⟩ := H
              go_enter Tryd.func111, Tryd.ntmps111
              go_wp2_with (first | ((with_reducible refine gate_dst (N := 2) rfl ?_); refine box_event rfl (N := 2) rfl (cs := #[.int .i64 0, .int .i64 0, .float .f64 0, .string (⟨#[]⟩ : ByteArray)]) (t := 50) gs ?_; intro gb448 hg w193 hbox hb; have BK448 := am (hbox); have GW448 := gw hg HB; have GE448 := gw hg HB; replace HB := sb HB hb; clear hb hbox hg) | ((with_reducible refine gate_callee (f := 110) rfl ?_); refine goesL_ (some 14) rfl rfl Tryd.func110 (by kernel_rfl) rfl #[.string a0, .int .i64 1] rfl ar ?_; (with_reducible refine (code_take.calls a0 1 t449 t450 true _ A2.out).mono ?_); rintro e w' ⟨rfl, ⟨nd, rfl⟩⟩; refine ⟨_, rfl, ?_⟩; (try (rw [drewN_self w193]; generalize hq_ : World.drewN w193 _ = w193; have n0_ : Aside0 (w193.heap[gb448]? = some (.cells #[.int .i64 0, .int .i64 0, .float .f64 0, .string (⟨#[]⟩ : ByteArray)] 50 (0, 0))) := ⟨by rw [← hq_]; exact (bk BK448)⟩; have n1_ : Aside0 (Below w.heap.size w w193) := ⟨by rw [← hq_]; exact (bl HB)⟩; clear BK448 HB hq_; have BK448 := n0_; have HB := n1_; clear n0_ n1_)); (try have Zuz194 : w193.cell? ⟨gb448, 0, none⟩ = some (.int .i64 0) := (blk_cell BK448.out 0).trans rfl); (try have Yuz194 := blk_frozen BK448.out 0); (try have Zuz195 : w193.cell? ⟨gb448, 1, none⟩ = some (.int .i64 0) := (blk_cell BK448.out 1).trans rfl); (try have Yuz195 := blk_frozen BK448.out 1); (try have Zuz196 : w193.cell? ⟨gb448, 2, none⟩ = some (.float .f64 0) := (blk_cell BK448.out 2).trans rfl); (try have Yuz196 := blk_frozen BK448.out 2); (try have Zuz197 : w193.cell? ⟨gb448, 3, none⟩ = some (.string (⟨#[]⟩ : ByteArray)) := (blk_cell BK448.out 3).trans rfl); (try have Yuz197 := blk_frozen BK448.out 3); have p5 : 0 ≤ (0 : Int) := (by omega); have q5 : 0 < t449.size := (by have : (0 : Int) < (t449.size : Int) := oda; omega); have hx5 : ∀ h : 0 < t449.size, ((t449[0]'h).toNat : Int) = bt t449 0 := bt_at t449 0; clear p5; have qi5 : (0 < (t449.size : Int)) = True := eq_true (oda); replace q5 := eq_true q5) | ((with_reducible refine gate_callee (f := 110) rfl ?_); refine goesL_ (some 36) rfl rfl Tryd.func110 (by kernel_rfl) rfl #[.string t450, .int .i64 (wrap64 ((wrap64 (bt t449 0)) - 128))] rfl ar ?_; (with_reducible refine (code_take.calls t450 (wrap64 ((wrap64 (bt t449 0)) - 128)) t457 t458 true _ A151.out).mono ?_); rintro e w' ⟨rfl, ⟨nd, rfl⟩⟩; refine ⟨_, rfl, ?_⟩; (try (rw [drewN_self w193]; generalize hq_ : World.drewN w193 _ = w193; have n0_ : Aside0 (w193.heap[gb448]? = some (.cells #[.int .i64 0, .int .i64 0, .float .f64 0, .string (⟨#[]⟩ : ByteArray)] 50 (0, 0))) := ⟨by rw [← hq_]; exact (bk BK448)⟩; have n1_ : Aside0 (Below w.heap.size w w193) := ⟨by rw [← hq_]; exact (bl HB)⟩; clear BK448 HB hq_; have BK448 := n0_; have HB := n1_; clear n0_ n1_)); (try have Zuz198 : w193.cell? ⟨gb448, 0, none⟩ = some (.int .i64 0) := (blk_cell BK448.out 0).trans rfl); (try have Yuz198 := blk_frozen BK448.out 0); (try have Zuz199 : w193.cell? ⟨gb448, 1, none⟩ = some (.int .i64 0) := (blk_cell BK448.out 1).trans rfl); (try have Yuz199 := blk_frozen BK448.out 1); (try have Zuz200 : w193.cell? ⟨gb448, 2, none⟩ = some (.float .f64 0) := (blk_cell BK448.out 2).trans rfl); (try have Yuz200 := blk_frozen BK448.out 2); (try have Zuz201 : w193.cell? ⟨gb448, 3, none⟩ = some (.string (⟨#[]⟩ : ByteArray)) := (blk_cell BK448.out 3).trans rfl); (try have Yuz201 := blk_frozen BK448.out 3)) | ((with_reducible refine gate_callee (f := 144) rfl ?_); refine goesL_ (some 44) rfl rfl Tryd.func144 (by kernel_rfl) rfl #[.string t457] rfl ar ?_; (with_reducible refine (code_number.calls k t457 t460 _ A153.out).mono ?_); rintro e w' ⟨rfl, ⟨nd, rfl⟩⟩; refine ⟨_, rfl, ?_⟩; (try (rw [drewN_self w193]; generalize hq_ : World.drewN w193 _ = w193; have n0_ : Aside0 (w193.heap[gb448]? = some (.cells #[.int .i64 0, .int .i64 0, .float .f64 0, .string (⟨#[]⟩ : ByteArray)] 50 (0, 0))) := ⟨by rw [← hq_]; exact (bk BK448)⟩; have n1_ : Aside0 (Below w.heap.size w w193) := ⟨by rw [← hq_]; exact (bl HB)⟩; clear BK448 HB hq_; have BK448 := n0_; have HB := n1_; clear n0_ n1_)); (try have Zuz202 : w193.cell? ⟨gb448, 0, none⟩ = some (.int .i64 0) := (blk_cell BK448.out 0).trans rfl); (try have Yuz202 := blk_frozen BK448.out 0); (try have Zuz203 : w193.cell? ⟨gb448, 1, none⟩ = some (.int .i64 0) := (blk_cell BK448.out 1).trans rfl); (try have Yuz203 := blk_frozen BK448.out 1); (try have Zuz204 : w193.cell? ⟨gb448, 2, none⟩ = some (.float .f64 0) := (blk_cell BK448.out 2).trans rfl); (try have Yuz204 := blk_frozen BK448.out 2); (try have Zuz205 : w193.cell? ⟨gb448, 3, none⟩ = some (.string (⟨#[]⟩ : ByteArray)) := (blk_cell BK448.out 3).trans rfl); (try have Yuz205 := blk_frozen BK448.out 3)) | ((with_reducible refine gate_callee (f := 138) rfl ?_); refine goesL_ (some 53) rfl rfl Tryd.func138 (by kernel_rfl) rfl #[.int .u64 t460] rfl ar ?_; (with_reducible refine (code_size.calls t460 t461 _ A154.out).mono ?_); rintro e w' ⟨rfl, ⟨nd, rfl⟩⟩; refine ⟨_, rfl, ?_⟩; (try (rw [drewN_self w193]; generalize hq_ : World.drewN w193 _ = w193; have n0_ : Aside0 (w193.heap[gb448]? = some (.cells #[.int .i64 0, .int .i64 0, .float .f64 0, .string (⟨#[]⟩ : ByteArray)] 50 (0, 0))) := ⟨by rw [← hq_]; exact (bk BK448)⟩; have n1_ : Aside0 (Below w.heap.size w w193) := ⟨by rw [← hq_]; exact (bl HB)⟩; clear BK448 HB hq_; have BK448 := n0_; have HB := n1_; clear n0_ n1_)); (try have Zuz206 : w193.cell? ⟨gb448, 0, none⟩ = some (.int .i64 0) := (blk_cell BK448.out 0).trans rfl); (try have Yuz206 := blk_frozen BK448.out 0); (try have Zuz207 : w193.cell? ⟨gb448, 1, none⟩ = some (.int .i64 0) := (blk_cell BK448.out 1).trans rfl); (try have Yuz207 := blk_frozen BK448.out 1); (try have Zuz208 : w193.cell? ⟨gb448, 2, none⟩ = some (.float .f64 0) := (blk_cell BK448.out 2).trans rfl); (try have Yuz208 := blk_frozen BK448.out 2); (try have Zuz209 : w193.cell? ⟨gb448, 3, none⟩ = some (.string (⟨#[]⟩ : ByteArray)) := (blk_cell BK448.out 3).trans rfl); (try have Yuz209 := blk_frozen BK448.out 3); obtain ⟨Z210_0, Z210_1, Z210_2, Z210_3, Y210_0, Y210_1, Y210_2, Y210_3⟩ := bq4 BK448))
              refine bodyPost_ret (results_ctt rfl _ _ gb448 50 #[.int .i64 0, .int .i64 0, .float .f64 0, .string (⟨#[]⟩ : ByteArray)] (0, 0) _ rfl (by refine rp ?_; refine blk_put (cs := #[.int .i64 0, .int .i64 0, .float .f64 0, .string (⟨#[]⟩ : ByteArray)]) ?_ 3 _ rfl; refine rp ?_; refine blk_put (cs := #[.int .i64 0, .int .i64 0, .float .f64 0, .string (⟨#[]⟩ : ByteArray)]) ?_ 2 _ rfl; refine rp ?_; refine blk_put (cs := #[.int .i64 0, .int .i64 0, .float .f64 0, .string (⟨#[]⟩ : ByteArray)]) ?_ 1 _ rfl; refine rp ?_; refine blk_put (cs := #[.int .i64 0, .int .i64 0, .float .f64 0, .string (⟨#[]⟩ : ByteArray)]) ?_ 0 _ rfl; exact bk BK448) Tryd.underlying50 rfl (by kernel_rfl)) rfl ?_
              exact ⟨er, bl HB⟩
          · replace c152 := Bool.eq_false_iff.mpr c152
            subst c152
            have H1 : (some (0, 0, 0, (⟨#[]⟩ : ByteArray), (⟨#[]⟩ : ByteArray), false)) = some (r1, r2, r3, r4, r5, r6) := by rw [if_neg (show ¬ (false = true) by decide)] at H; exact H
            clear H
            have H := H1
            clear H1
            simp only [Option.some.injEq, Prod.mk.injEq] at H
            obtain ⟨rfl, rfl, rfl, rfl, rfl, rfl⟩ := H
            go_enter Tryd.func111, Tryd.ntmps111
            go_wp2_with (first | ((with_reducible refine gate_dst (N := 2) rfl ?_); refine box_event rfl (N := 2) rfl (cs := #[.int .i64 0, .int .i64 0, .float .f64 0, .string (⟨#[]⟩ : ByteArray)]) (t := 50) gs ?_; intro gb448 hg w211 hbox hb; have BK448 := am (hbox); have GW448 := gw hg HB; have GE448 := gw hg HB; replace HB := sb HB hb; clear hb hbox hg) | ((with_reducible refine gate_callee (f := 110) rfl ?_); refine goesL_ (some 14) rfl rfl Tryd.func110 (by kernel_rfl) rfl #[.string a0, .int .i64 1] rfl ar ?_; (with_reducible refine (code_take.calls a0 1 t449 t450 true _ A2.out).mono ?_); rintro e w' ⟨rfl, ⟨nd, rfl⟩⟩; refine ⟨_, rfl, ?_⟩; (try (rw [drewN_self w211]; generalize hq_ : World.drewN w211 _ = w211; have n0_ : Aside0 (w211.heap[gb448]? = some (.cells #[.int .i64 0, .int .i64 0, .float .f64 0, .string (⟨#[]⟩ : ByteArray)] 50 (0, 0))) := ⟨by rw [← hq_]; exact (bk BK448)⟩; have n1_ : Aside0 (Below w.heap.size w w211) := ⟨by rw [← hq_]; exact (bl HB)⟩; clear BK448 HB hq_; have BK448 := n0_; have HB := n1_; clear n0_ n1_)); (try have Zuz212 : w211.cell? ⟨gb448, 0, none⟩ = some (.int .i64 0) := (blk_cell BK448.out 0).trans rfl); (try have Yuz212 := blk_frozen BK448.out 0); (try have Zuz213 : w211.cell? ⟨gb448, 1, none⟩ = some (.int .i64 0) := (blk_cell BK448.out 1).trans rfl); (try have Yuz213 := blk_frozen BK448.out 1); (try have Zuz214 : w211.cell? ⟨gb448, 2, none⟩ = some (.float .f64 0) := (blk_cell BK448.out 2).trans rfl); (try have Yuz214 := blk_frozen BK448.out 2); (try have Zuz215 : w211.cell? ⟨gb448, 3, none⟩ = some (.string (⟨#[]⟩ : ByteArray)) := (blk_cell BK448.out 3).trans rfl); (try have Yuz215 := blk_frozen BK448.out 3); have p5 : 0 ≤ (0 : Int) := (by omega); have q5 : 0 < t449.size := (by have : (0 : Int) < (t449.size : Int) := oda; omega); have hx5 : ∀ h : 0 < t449.size, ((t449[0]'h).toNat : Int) = bt t449 0 := bt_at t449 0; clear p5; have qi5 : (0 < (t449.size : Int)) = True := eq_true (oda); replace q5 := eq_true q5) | ((with_reducible refine gate_callee (f := 110) rfl ?_); refine goesL_ (some 36) rfl rfl Tryd.func110 (by kernel_rfl) rfl #[.string t450, .int .i64 (wrap64 ((wrap64 (bt t449 0)) - 128))] rfl ar ?_; (with_reducible refine (code_take.calls t450 (wrap64 ((wrap64 (bt t449 0)) - 128)) t457 t458 false _ A151.out).mono ?_); rintro e w' ⟨rfl, ⟨nd, rfl⟩⟩; refine ⟨_, rfl, ?_⟩; (try (rw [drewN_self w211]; generalize hq_ : World.drewN w211 _ = w211; have n0_ : Aside0 (w211.heap[gb448]? = some (.cells #[.int .i64 0, .int .i64 0, .float .f64 0, .string (⟨#[]⟩ : ByteArray)] 50 (0, 0))) := ⟨by rw [← hq_]; exact (bk BK448)⟩; have n1_ : Aside0 (Below w.heap.size w w211) := ⟨by rw [← hq_]; exact (bl HB)⟩; clear BK448 HB hq_; have BK448 := n0_; have HB := n1_; clear n0_ n1_)); (try have Zuz216 : w211.cell? ⟨gb448, 0, none⟩ = some (.int .i64 0) := (blk_cell BK448.out 0).trans rfl); (try have Yuz216 := blk_frozen BK448.out 0); (try have Zuz217 : w211.cell? ⟨gb448, 1, none⟩ = some (.int .i64 0) := (blk_cell BK448.out 1).trans rfl); (try have Yuz217 := blk_frozen BK448.out 1); (try have Zuz218 : w211.cell? ⟨gb448, 2, none⟩ = some (.float .f64 0) := (blk_cell BK448.out 2).trans rfl); (try have Yuz218 := blk_frozen BK448.out 2); (try have Zuz219 : w211.cell? ⟨gb448, 3, none⟩ = some (.string (⟨#[]⟩ : ByteArray)) := (blk_cell BK448.out 3).trans rfl); (try have Yuz219 := blk_frozen BK448.out 3); obtain ⟨Z220_0, Z220_1, Z220_2, Z220_3, Y220_0, Y220_1, Y220_2, Y220_3⟩ := bq4 BK448))
            refine bodyPost_ret (results_ctt rfl _ _ gb448 50 #[.int .i64 0, .int .i64 0, .float .f64 0, .string (⟨#[]⟩ : ByteArray)] (0, 0) _ rfl (by refine rp ?_; refine blk_put (cs := #[.int .i64 0, .int .i64 0, .float .f64 0, .string (⟨#[]⟩ : ByteArray)]) ?_ 3 _ rfl; refine rp ?_; refine blk_put (cs := #[.int .i64 0, .int .i64 0, .float .f64 0, .string (⟨#[]⟩ : ByteArray)]) ?_ 2 _ rfl; refine rp ?_; refine blk_put (cs := #[.int .i64 0, .int .i64 0, .float .f64 0, .string (⟨#[]⟩ : ByteArray)]) ?_ 1 _ rfl; refine rp ?_; refine blk_put (cs := #[.int .i64 0, .int .i64 0, .float .f64 0, .string (⟨#[]⟩ : ByteArray)]) ?_ 0 _ rfl; exact bk BK448) Tryd.underlying50 rfl (by kernel_rfl)) rfl ?_
            exact ⟨er, bl HB⟩
    · rw [if_neg c4] at H
      exact absurd H (by simp)
  · replace c3 := Bool.eq_false_iff.mpr c3
    subst c3
    have H1 : (some (0, 0, 0, (⟨#[]⟩ : ByteArray), (⟨#[]⟩ : ByteArray), false)) = some (r1, r2, r3, r4, r5, r6) := by rw [if_neg (show ¬ (false = true) by decide)] at H; exact H
    clear H
    have H := H1
    clear H1
    simp only [Option.some.injEq, Prod.mk.injEq] at H
    obtain ⟨rfl, rfl, rfl, rfl, rfl, rfl⟩ := H
    go_enter Tryd.func111, Tryd.ntmps111
    go_wp2_with (first | ((with_reducible refine gate_dst (N := 2) rfl ?_); refine box_event rfl (N := 2) rfl (cs := #[.int .i64 0, .int .i64 0, .float .f64 0, .string (⟨#[]⟩ : ByteArray)]) (t := 50) gs ?_; intro gb448 hg w221 hbox hb; have BK448 := am (hbox); have GW448 := gw hg HB; have GE448 := gw hg HB; replace HB := sb HB hb; clear hb hbox hg) | ((with_reducible refine gate_callee (f := 110) rfl ?_); refine goesL_ (some 14) rfl rfl Tryd.func110 (by kernel_rfl) rfl #[.string a0, .int .i64 1] rfl ar ?_; (with_reducible refine (code_take.calls a0 1 t449 t450 false _ A2.out).mono ?_); rintro e w' ⟨rfl, ⟨nd, rfl⟩⟩; refine ⟨_, rfl, ?_⟩; (try (rw [drewN_self w221]; generalize hq_ : World.drewN w221 _ = w221; have n0_ : Aside0 (w221.heap[gb448]? = some (.cells #[.int .i64 0, .int .i64 0, .float .f64 0, .string (⟨#[]⟩ : ByteArray)] 50 (0, 0))) := ⟨by rw [← hq_]; exact (bk BK448)⟩; have n1_ : Aside0 (Below w.heap.size w w221) := ⟨by rw [← hq_]; exact (bl HB)⟩; clear BK448 HB hq_; have BK448 := n0_; have HB := n1_; clear n0_ n1_)); (try have Zuz222 : w221.cell? ⟨gb448, 0, none⟩ = some (.int .i64 0) := (blk_cell BK448.out 0).trans rfl); (try have Yuz222 := blk_frozen BK448.out 0); (try have Zuz223 : w221.cell? ⟨gb448, 1, none⟩ = some (.int .i64 0) := (blk_cell BK448.out 1).trans rfl); (try have Yuz223 := blk_frozen BK448.out 1); (try have Zuz224 : w221.cell? ⟨gb448, 2, none⟩ = some (.float .f64 0) := (blk_cell BK448.out 2).trans rfl); (try have Yuz224 := blk_frozen BK448.out 2); (try have Zuz225 : w221.cell? ⟨gb448, 3, none⟩ = some (.string (⟨#[]⟩ : ByteArray)) := (blk_cell BK448.out 3).trans rfl); (try have Yuz225 := blk_frozen BK448.out 3); obtain ⟨Z226_0, Z226_1, Z226_2, Z226_3, Y226_0, Y226_1, Y226_2, Y226_3⟩ := bq4 BK448))
    refine bodyPost_ret (results_ctt rfl _ _ gb448 50 #[.int .i64 0, .int .i64 0, .float .f64 0, .string (⟨#[]⟩ : ByteArray)] (0, 0) _ rfl (by refine rp ?_; refine blk_put (cs := #[.int .i64 0, .int .i64 0, .float .f64 0, .string (⟨#[]⟩ : ByteArray)]) ?_ 3 _ rfl; refine rp ?_; refine blk_put (cs := #[.int .i64 0, .int .i64 0, .float .f64 0, .string (⟨#[]⟩ : ByteArray)]) ?_ 2 _ rfl; refine rp ?_; refine blk_put (cs := #[.int .i64 0, .int .i64 0, .float .f64 0, .string (⟨#[]⟩ : ByteArray)]) ?_ 1 _ rfl; refine rp ?_; refine blk_put (cs := #[.int .i64 0, .int .i64 0, .float .f64 0, .string (⟨#[]⟩ : ByteArray)]) ?_ 0 _ rfl; exact bk BK448) Tryd.underlying50 rfl (by kernel_rfl)) rfl ?_
    exact ⟨er, bl HB⟩
def code_getFloat.f (k : Nat) (a0 : ByteArray) : Option (Int × Int × Nat × ByteArray × ByteArray × Bool) := (code_take.f a0 8).bind fun bt463 => (if bt463.2.2 = true then ((code_number.f k bt463.1).bind fun t466 => (if (t466 / 9223372036854775808) = 1 then ((value_Plain.f k 3 0 ((Go.bits .xor .u64 t466 9223372036854775808).toNat) (⟨#[]⟩ : ByteArray)).bind fun bt468 => (some (3, 0, (Go.bits .xor .u64 t466 9223372036854775808).toNat, (⟨#[]⟩ : ByteArray), bt463.2.1, (((bt468.2.2.1 : Nat) : Int) == (Go.bits .xor .u64 t466 9223372036854775808))))) else ((value_Plain.f k 3 0 ((not64 t466).toNat) (⟨#[]⟩ : ByteArray)).bind fun bt473 => (some (3, 0, (not64 t466).toNat, (⟨#[]⟩ : ByteArray), bt463.2.1, (((bt473.2.2.1 : Nat) : Int) == (not64 t466))))))) else (some (0, 0, 0, (⟨#[]⟩ : ByteArray), (⟨#[]⟩ : ByteArray), false)))
def code_getFloat.T9 : Bool × List (List Nat × List Nat) := (true, [([], []), ([], []), ([], []), ([2], [2]), ([3], [3]), ([4, 3], [4]), ([], []), ([5, 6], [5, 6]), ([0, 5, 0], [0]), ([1, 8, 0, 1, 8], [1]), ([7, 9, 0, 1, 2, 3, 4, 5, 6, 7, 8, 9], [7])])
def code_getFloat.B9 : List Nat := [0, 0, 0, 4, 12, 28, 0, 124, 61, 319, 1023]
theorem code_getFloat.tab9 : rtab .any (opsOf Tryd.f112 9) = code_getFloat.T9 := by kernel_rfl
theorem code_getFloat.bits9 : waitsOk code_getFloat.T9.2 code_getFloat.B9 = true := by kernel_rfl
set_option maxHeartbeats 8000000 in
set_option maxRecDepth 100000 in
theorem code_getFloat.calls (k : Nat) (a0 : ByteArray) (r1 : Int) (r2 : Int) (r3 : Nat) (r4 : ByteArray) (r5 : ByteArray) (r6 : Bool) (w : World) (h : code_getFloat.f k a0 = some (r1, r2, r3, r4, r5, r6)) :
    Calls Tryd.prog 112 #[.string a0] w fun e w' => e = .returned (.tuple #[.agg #[.int .i64 r1, .int .i64 r2, .float .f64 r3, .string r4], .string r5, .bool r6]) ∧ Below w.heap.size w w' := by
  have hu50 := Tryd.underlying50
  have HB := am (Below.refl w.heap.size w)
  have H : ((code_take.f a0 8).bind fun bt463 => (if bt463.2.2 = true then ((code_number.f k bt463.1).bind fun t466 => (if (t466 / 9223372036854775808) = 1 then ((value_Plain.f k 3 0 ((Go.bits .xor .u64 t466 9223372036854775808).toNat) (⟨#[]⟩ : ByteArray)).bind fun bt468 => (some (3, 0, (Go.bits .xor .u64 t466 9223372036854775808).toNat, (⟨#[]⟩ : ByteArray), bt463.2.1, (((bt468.2.2.1 : Nat) : Int) == (Go.bits .xor .u64 t466 9223372036854775808))))) else ((value_Plain.f k 3 0 ((not64 t466).toNat) (⟨#[]⟩ : ByteArray)).bind fun bt473 => (some (3, 0, (not64 t466).toNat, (⟨#[]⟩ : ByteArray), bt463.2.1, (((bt473.2.2.1 : Nat) : Int) == (not64 t466))))))) else (some (0, 0, 0, (⟨#[]⟩ : ByteArray), (⟨#[]⟩ : ByteArray), false)))) = some (r1, r2, r3, r4, r5, r6) := h
  clear h
  replace H := Option.bind_eq_some_iff.mp H
  obtain ⟨⟨t463, t464, t465⟩, A20, H⟩ := H
  replace H : (if t465 = true then ((code_number.f k t463).bind fun t466 => (if (t466 / 9223372036854775808) = 1 then ((value_Plain.f k 3 0 ((Go.bits .xor .u64 t466 9223372036854775808).toNat) (⟨#[]⟩ : ByteArray)).bind fun bt468 => (some (3, 0, (Go.bits .xor .u64 t466 9223372036854775808).toNat, (⟨#[]⟩ : ByteArray), t464, (((bt468.2.2.1 : Nat) : Int) == (Go.bits .xor .u64 t466 9223372036854775808))))) else ((value_Plain.f k 3 0 ((not64 t466).toNat) (⟨#[]⟩ : ByteArray)).bind fun bt473 => (some (3, 0, (not64 t466).toNat, (⟨#[]⟩ : ByteArray), t464, (((bt473.2.2.1 : Nat) : Int) == (not64 t466))))))) else (some (0, 0, 0, (⟨#[]⟩ : ByteArray), (⟨#[]⟩ : ByteArray), false))) = some (r1, r2, r3, r4, r5, r6) := H
  have A2 := am A20
  clear A20
  by_cases c3 : t465 = true
  · subst c3
    have H1 : ((code_number.f k t463).bind fun t466 => (if (t466 / 9223372036854775808) = 1 then ((value_Plain.f k 3 0 ((Go.bits .xor .u64 t466 9223372036854775808).toNat) (⟨#[]⟩ : ByteArray)).bind fun bt468 => (some (3, 0, (Go.bits .xor .u64 t466 9223372036854775808).toNat, (⟨#[]⟩ : ByteArray), t464, (((bt468.2.2.1 : Nat) : Int) == (Go.bits .xor .u64 t466 9223372036854775808))))) else ((value_Plain.f k 3 0 ((not64 t466).toNat) (⟨#[]⟩ : ByteArray)).bind fun bt473 => (some (3, 0, (not64 t466).toNat, (⟨#[]⟩ : ByteArray), t464, (((bt473.2.2.1 : Nat) : Int) == (not64 t466))))))) = some (r1, r2, r3, r4, r5, r6) := by rw [if_pos rfl] at H; exact H
    clear H
    have H := H1
    clear H1
    replace H := Option.bind_eq_some_iff.mp H
    obtain ⟨t466, A40, H⟩ := H
    replace H : (if (t466 / 9223372036854775808) = 1 then ((value_Plain.f k 3 0 ((Go.bits .xor .u64 t466 9223372036854775808).toNat) (⟨#[]⟩ : ByteArray)).bind fun bt468 => (some (3, 0, (Go.bits .xor .u64 t466 9223372036854775808).toNat, (⟨#[]⟩ : ByteArray), t464, (((bt468.2.2.1 : Nat) : Int) == (Go.bits .xor .u64 t466 9223372036854775808))))) else ((value_Plain.f k 3 0 ((not64 t466).toNat) (⟨#[]⟩ : ByteArray)).bind fun bt473 => (some (3, 0, (not64 t466).toNat, (⟨#[]⟩ : ByteArray), t464, (((bt473.2.2.1 : Nat) : Int) == (not64 t466)))))) = some (r1, r2, r3, r4, r5, r6) := H
    have A4 := am A40
    clear A40
    by_cases c5 : (t466 / 9223372036854775808) = 1
    · rw [if_pos c5] at H
      have c5b0 : ((t466 / 9223372036854775808) == 1) = true := beq_iff_eq.mpr c5
      have c5b1 : ((t466 / 9223372036854775808) != 1) = false := bne_eq_false_iff_eq.mpr c5
      clear c5
      replace H := Option.bind_eq_some_iff.mp H
      obtain ⟨⟨t468, t469, t470, t471⟩, A60, H⟩ := H
      replace H : (some (3, 0, (Go.bits .xor .u64 t466 9223372036854775808).toNat, (⟨#[]⟩ : ByteArray), t464, (((t470 : Nat) : Int) == (Go.bits .xor .u64 t466 9223372036854775808)))) = some (r1, r2, r3, r4, r5, r6) := H
      have A6 := am A60
      clear A60
      simp only [Option.some.injEq, Prod.mk.injEq] at H
      obtain ⟨rfl, rfl, rfl, rfl, rfl, rfl⟩ := H
      go_enter Tryd.func112, Tryd.ntmps112
      try go_wp2_with (first | ((with_reducible refine gate_dst (N := 2) rfl ?_); refine box_event rfl (N := 2) rfl (cs := #[.int .i64 0, .int .i64 0, .float .f64 0, .string (⟨#[]⟩ : ByteArray)]) (t := 50) gs ?_; intro gb462 hg w7 hbox hb; have BK462 := am (hbox); have GW462 := gw hg HB; have GE462 := gw hg HB; replace HB := sb HB hb; clear hb hbox hg) | ((with_reducible refine gate_callee (f := 110) rfl ?_); refine goesL_ (some 11) rfl rfl Tryd.func110 (by kernel_rfl) rfl #[.string a0, .int .i64 8] rfl ar ?_; (with_reducible refine (code_take.calls a0 8 t463 t464 true _ A2.out).mono ?_); rintro e w' ⟨rfl, ⟨nd, rfl⟩⟩; refine ⟨_, rfl, ?_⟩; (try (rw [drewN_self w7]; generalize hq_ : World.drewN w7 _ = w7; have n0_ : Aside0 (w7.heap[gb462]? = some (.cells #[.int .i64 0, .int .i64 0, .float .f64 0, .string (⟨#[]⟩ : ByteArray)] 50 (0, 0))) := ⟨by rw [← hq_]; exact (bk BK462)⟩; have n1_ : Aside0 (Below w.heap.size w w7) := ⟨by rw [← hq_]; exact (bl HB)⟩; clear BK462 HB hq_; have BK462 := n0_; have HB := n1_; clear n0_ n1_)); (try have Zuz8 : w7.cell? ⟨gb462, 0, none⟩ = some (.int .i64 0) := (blk_cell BK462.out 0).trans rfl); (try have Yuz8 := blk_frozen BK462.out 0); (try have Zuz9 : w7.cell? ⟨gb462, 1, none⟩ = some (.int .i64 0) := (blk_cell BK462.out 1).trans rfl); (try have Yuz9 := blk_frozen BK462.out 1); (try have Zuz10 : w7.cell? ⟨gb462, 2, none⟩ = some (.float .f64 0) := (blk_cell BK462.out 2).trans rfl); (try have Yuz10 := blk_frozen BK462.out 2); (try have Zuz11 : w7.cell? ⟨gb462, 3, none⟩ = some (.string (⟨#[]⟩ : ByteArray)) := (blk_cell BK462.out 3).trans rfl); (try have Yuz11 := blk_frozen BK462.out 3)) | ((with_reducible refine gate_callee (f := 144) rfl ?_); refine goesL_ (some 19) rfl rfl Tryd.func144 (by kernel_rfl) rfl #[.string t463] rfl ar ?_; (with_reducible refine (code_number.calls k t463 t466 _ A4.out).mono ?_); rintro e w' ⟨rfl, ⟨nd, rfl⟩⟩; refine ⟨_, rfl, ?_⟩; (try (rw [drewN_self w7]; generalize hq_ : World.drewN w7 _ = w7; have n0_ : Aside0 (w7.heap[gb462]? = some (.cells #[.int .i64 0, .int .i64 0, .float .f64 0, .string (⟨#[]⟩ : ByteArray)] 50 (0, 0))) := ⟨by rw [← hq_]; exact (bk BK462)⟩; have n1_ : Aside0 (Below w.heap.size w w7) := ⟨by rw [← hq_]; exact (bl HB)⟩; clear BK462 HB hq_; have BK462 := n0_; have HB := n1_; clear n0_ n1_)); (try have Zuz12 : w7.cell? ⟨gb462, 0, none⟩ = some (.int .i64 0) := (blk_cell BK462.out 0).trans rfl); (try have Yuz12 := blk_frozen BK462.out 0); (try have Zuz13 : w7.cell? ⟨gb462, 1, none⟩ = some (.int .i64 0) := (blk_cell BK462.out 1).trans rfl); (try have Yuz13 := blk_frozen BK462.out 1); (try have Zuz14 : w7.cell? ⟨gb462, 2, none⟩ = some (.float .f64 0) := (blk_cell BK462.out 2).trans rfl); (try have Yuz14 := blk_frozen BK462.out 2); (try have Zuz15 : w7.cell? ⟨gb462, 3, none⟩ = some (.string (⟨#[]⟩ : ByteArray)) := (blk_cell BK462.out 3).trans rfl); (try have Yuz15 := blk_frozen BK462.out 3)) | ((with_reducible refine gate_dst (N := 8) rfl ?_); refine box_event rfl (N := 8) rfl (cs := #[.int .i64 0, .int .i64 0, .float .f64 0, .string (⟨#[]⟩ : ByteArray)]) (t := 50) gs ?_; intro gb467 hg w16 hbox hb; have BK467 := am (hbox); have GW467 := gw hg HB; have GE467 := gw hg HB; have NB462_467 := am ((by rw [hg]; exact Nat.ne_of_lt (blk_lt (bk BK462)) : gb462 ≠ gb467)); have NB467_462 := am ((by rw [hg]; exact Nat.ne_of_gt (blk_lt (bk BK462)) : gb467 ≠ gb462)); replace BK462 := kb BK462 hb; replace HB := sb HB hb; clear hb hbox hg; have hnb17 := NB467_462.out; have hnc17 := NB462_467.out; obtain ⟨Z18_0, Z18_1, Z18_2, Z18_3, Y18_0, Y18_1, Y18_2, Y18_3⟩ := bq4 BK467))
      have n0_ : Aside0 (((((w16.setCell ⟨gb467, 0, none⟩ (.int .i64 3)).setCell ⟨gb467, 1, none⟩ (.int .i64 0)).setCell ⟨gb467, 2, none⟩ (.float .f64 ((Go.bits .xor .u64 t466 9223372036854775808).toNat))).setCell ⟨gb467, 3, none⟩ (.string (⟨#[]⟩ : ByteArray))).heap[gb462]? = some (.cells #[.int .i64 0, .int .i64 0, .float .f64 0, .string (⟨#[]⟩ : ByteArray)] 50 (0, 0))) := ⟨by refine rp ?_; refine blk_far ?_ NB462_467.out _; refine rp ?_; refine blk_far ?_ NB462_467.out _; refine rp ?_; refine blk_far ?_ NB462_467.out _; refine rp ?_; refine blk_far ?_ NB462_467.out _; exact bk BK462⟩
      have n1_ : Aside0 (((((w16.setCell ⟨gb467, 0, none⟩ (.int .i64 3)).setCell ⟨gb467, 1, none⟩ (.int .i64 0)).setCell ⟨gb467, 2, none⟩ (.float .f64 ((Go.bits .xor .u64 t466 9223372036854775808).toNat))).setCell ⟨gb467, 3, none⟩ (.string (⟨#[]⟩ : ByteArray))).heap[gb467]? = some (.cells #[.int .i64 3, .int .i64 0, .float .f64 ((Go.bits .xor .u64 t466 9223372036854775808).toNat), .string (⟨#[]⟩ : ByteArray)] 50 (0, 0))) := ⟨by refine rp ?_; refine blk_put (cs := #[.int .i64 3, .int .i64 0, .float .f64 ((Go.bits .xor .u64 t466 9223372036854775808).toNat), .string (⟨#[]⟩ : ByteArray)]) ?_ 3 _ rfl; refine rp ?_; refine blk_put (cs := #[.int .i64 3, .int .i64 0, .float .f64 0, .string (⟨#[]⟩ : ByteArray)]) ?_ 2 _ rfl; refine rp ?_; refine blk_put (cs := #[.int .i64 3, .int .i64 0, .float .f64 0, .string (⟨#[]⟩ : ByteArray)]) ?_ 1 _ rfl; refine rp ?_; refine blk_put (cs := #[.int .i64 0, .int .i64 0, .float .f64 0, .string (⟨#[]⟩ : ByteArray)]) ?_ 0 _ rfl; exact bk BK467⟩
      have n2_ : Aside0 (Below w.heap.size w ((((w16.setCell ⟨gb467, 0, none⟩ (.int .i64 3)).setCell ⟨gb467, 1, none⟩ (.int .i64 0)).setCell ⟨gb467, 2, none⟩ (.float .f64 ((Go.bits .xor .u64 t466 9223372036854775808).toNat))).setCell ⟨gb467, 3, none⟩ (.string (⟨#[]⟩ : ByteArray)))) := ⟨bl HB⟩
      (try clear BK462)
      (try clear BK467)
      (try clear HB)
      generalize ((((w16.setCell ⟨gb467, 0, none⟩ (.int .i64 3)).setCell ⟨gb467, 1, none⟩ (.int .i64 0)).setCell ⟨gb467, 2, none⟩ (.float .f64 ((Go.bits .xor .u64 t466 9223372036854775808).toNat))).setCell ⟨gb467, 3, none⟩ (.string (⟨#[]⟩ : ByteArray))) = w19 at n0_ n1_ n2_ ⊢
      have BK462 := n0_
      have BK467 := n1_
      have HB := n2_
      clear n0_ n1_ n2_
      have n0_ := am (blk_drew BK462.out)
      have n1_ := am (blk_drew BK467.out)
      have n2_ := am (below_drew1 HB.out)
      clear BK462
      clear BK467
      clear HB
      have BK462 := n0_
      have BK467 := n1_
      have HB := n2_
      clear n0_ n1_ n2_
      refine start_ (n := 11) (S := fun w' => w'.cell? ⟨gb467, 0, none⟩ = some (.int .i64 3) ∧ w'.cell? ⟨gb467, 1, none⟩ = some (.int .i64 0) ∧ w'.cell? ⟨gb467, 2, none⟩ = some (.float .f64 ((Go.bits .xor .u64 t466 9223372036854775808).toNat)) ∧ w'.cell? ⟨gb467, 3, none⟩ = some (.string (⟨#[]⟩ : ByteArray))) (ds := []) (bb 0 11) (by kernel_rfl) rfl rfl ⟨(blk_cell BK467.out 0).trans rfl, (blk_cell BK467.out 1).trans rfl, (blk_cell BK467.out 2).trans rfl, (blk_cell BK467.out 3).trans rfl⟩ (fun hHeld => ?_); refine with_tabW code_getFloat.tab9 code_getFloat.bits9 (fun HT_ HW_ => ?_)
      generalize w19.drew = w20 at BK462 BK467 HB hHeld ⊢
      refine pu HT_ 1 (some 31) (bs 11 2) ?_
      refine pu HT_ 6 (some 36) (bs 11 66) ?_
      refine tk HT_ HW_ hHeld 0 (some 30) (bs 11 67) ?_
      refine tk HT_ HW_ hHeld 2 (some 32) (bs 11 71) ?_
      refine one_ (i := 3) (N := some 33) (bs 11 79) rfl rfl (one_of HT_.out (by kernel_rfl)) (by decide) (fun K hK => ?_)
      refine goes_ Tryd.func102 (by kernel_rfl) rfl #[.agg #[.int .i64 3, .int .i64 0, .float .f64 ((Go.bits .xor .u64 t466 9223372036854775808).toNat), .string (⟨#[]⟩ : ByteArray)]] (by rfl) rfl rfl ar ?_
      with_reducible refine (value_Plain.calls k 3 0 ((Go.bits .xor .u64 t466 9223372036854775808).toNat) (⟨#[]⟩ : ByteArray) t468 t469 t470 t471 _ A6.out).mono ?_
      rintro e w21 ⟨rfl, hb⟩
      refine ⟨_, rfl, ?_⟩
      have n0_ := kb BK462 hb
      have n1_ := kb BK467 hb
      have n2_ := sb HB hb
      clear BK462
      clear BK467
      clear HB
      have BK462 := n0_
      have BK467 := n1_
      have HB := n2_
      clear n0_ n1_ n2_
      (try clear hb)
      (try clear hb2)
      (try clear hk)
      (try clear hi)
      refine hK.out _ _ ⟨(blk_cell BK467.out 0).trans rfl, (blk_cell BK467.out 1).trans rfl, (blk_cell BK467.out 2).trans rfl, (blk_cell BK467.out 3).trans rfl⟩ (fun hHeld => ?_)
      clear hK K
      refine norm_ (a' := ?_) ?_ ?_
      rotate_left
      · show Act.put _ (some 33) _ = _
        simp only [Act.put, List.setIfInBounds_toArray, List.set_cons_zero, List.set_cons_succ, i64_w, i32_w]
        rfl
      refine pu HT_ 4 (some 34) (bs 11 95) ?_
      refine pu HT_ 5 (some 35) (bb 7 11) ?_
      refine pu HT_ 7 (some 37) (bb 8 11) ?_
      refine one_ (i := 8) (N := none) (bb 9 11) rfl rfl (one_of HT_.out (by kernel_rfl)) (by decide) (fun K hK => ?_)
      have hs22 : w21.cell? ⟨gb462, 0, none⟩ = some (.int .i64 0) := (blk_cell BK462.out 0).trans rfl
      have hfs22 := blk_frozen BK462.out 0
      have hns22_1 := NB467_462.out
      have hms22_1 := NB462_467.out
      have hs23 : w21.cell? ⟨gb462, 1, none⟩ = some (.int .i64 0) := (blk_cell BK462.out 1).trans rfl
      have hfs23 := blk_frozen BK462.out 1
      have hns23_1 := NB467_462.out
      have hms23_1 := NB462_467.out
      have hs24 : w21.cell? ⟨gb462, 2, none⟩ = some (.float .f64 0) := (blk_cell BK462.out 2).trans rfl
      have hfs24 := blk_frozen BK462.out 2
      have hns24_1 := NB467_462.out
      have hms24_1 := NB462_467.out
      have hs25 : w21.cell? ⟨gb462, 3, none⟩ = some (.string (⟨#[]⟩ : ByteArray)) := (blk_cell BK462.out 3).trans rfl
      have hfs25 := blk_frozen BK462.out 3
      have hns25_1 := NB467_462.out
      have hms25_1 := NB462_467.out
      refine skip_ (w1 := ?_) (by rfl) rfl ?_ ?_
      rotate_left
      · go_simp
        rfl
      refine hK.out _ _ ⟨((cell_far (p := ⟨gb462, _, none⟩) NB467_462.out _).trans (((cell_far (p := ⟨gb462, _, none⟩) NB467_462.out _).trans (((cell_far (p := ⟨gb462, _, none⟩) NB467_462.out _).trans (((cell_far (p := ⟨gb462, _, none⟩) NB467_462.out _).trans (hHeld.1)))))))), ((cell_far (p := ⟨gb462, _, none⟩) NB467_462.out _).trans (((cell_far (p := ⟨gb462, _, none⟩) NB467_462.out _).trans (((cell_far (p := ⟨gb462, _, none⟩) NB467_462.out _).trans (((cell_far (p := ⟨gb462, _, none⟩) NB467_462.out _).trans (hHeld.2.1)))))))), ((cell_far (p := ⟨gb462, _, none⟩) NB467_462.out _).trans (((cell_far (p := ⟨gb462, _, none⟩) NB467_462.out _).trans (((cell_far (p := ⟨gb462, _, none⟩) NB467_462.out _).trans (((cell_far (p := ⟨gb462, _, none⟩) NB467_462.out _).trans (hHeld.2.2.1)))))))), ((cell_far (p := ⟨gb462, _, none⟩) NB467_462.out _).trans (((cell_far (p := ⟨gb462, _, none⟩) NB467_462.out _).trans (((cell_far (p := ⟨gb462, _, none⟩) NB467_462.out _).trans (((cell_far (p := ⟨gb462, _, none⟩) NB467_462.out _).trans (hHeld.2.2.2))))))))⟩ (fun hHeld => ?_)
      clear hK K
      refine pu HT_ 9 (some 3) (bb 10 11) ?_
      refine pu HT_ 10 (some 4) (bb 11 11) ?_
      refine done_ (done_of HT_.out (by kernel_rfl)) ?_
      try go_wp2
      refine bodyPost_ret (results_ctt rfl _ _ gb462 50 #[.int .i64 3, .int .i64 0, .float .f64 ((Go.bits .xor .u64 t466 9223372036854775808).toNat), .string (⟨#[]⟩ : ByteArray)] (0, 0) _ rfl (by refine rp ?_; refine blk_put (cs := #[.int .i64 3, .int .i64 0, .float .f64 ((Go.bits .xor .u64 t466 9223372036854775808).toNat), .string (⟨#[]⟩ : ByteArray)]) ?_ 3 _ rfl; refine rp ?_; refine blk_put (cs := #[.int .i64 3, .int .i64 0, .float .f64 0, .string (⟨#[]⟩ : ByteArray)]) ?_ 2 _ rfl; refine rp ?_; refine blk_put (cs := #[.int .i64 3, .int .i64 0, .float .f64 0, .string (⟨#[]⟩ : ByteArray)]) ?_ 1 _ rfl; refine rp ?_; refine blk_put (cs := #[.int .i64 0, .int .i64 0, .float .f64 0, .string (⟨#[]⟩ : ByteArray)]) ?_ 0 _ rfl; exact bk BK462) Tryd.underlying50 rfl (by kernel_rfl)) rfl ?_
      exact ⟨er, bl HB⟩
    · rw [if_neg c5] at H
      have c5b0 : ((t466 / 9223372036854775808) == 1) = false := beq_eq_false_iff_ne.mpr c5
      have c5b1 : ((t466 / 9223372036854775808) != 1) = true := bne_iff_ne.mpr c5
      replace H := Option.bind_eq_some_iff.mp H
      obtain ⟨⟨t473, t474, t475, t476⟩, A260, H⟩ := H
      replace H : (some (3, 0, (not64 t466).toNat, (⟨#[]⟩ : ByteArray), t464, (((t475 : Nat) : Int) == (not64 t466)))) = some (r1, r2, r3, r4, r5, r6) := H
      have A26 := am A260
      clear A260
      simp only [Option.some.injEq, Prod.mk.injEq] at H
      obtain ⟨rfl, rfl, rfl, rfl, rfl, rfl⟩ := H
      go_enter Tryd.func112, Tryd.ntmps112
      try go_wp2_with (first | ((with_reducible refine gate_dst (N := 2) rfl ?_); refine box_event rfl (N := 2) rfl (cs := #[.int .i64 0, .int .i64 0, .float .f64 0, .string (⟨#[]⟩ : ByteArray)]) (t := 50) gs ?_; intro gb462 hg w27 hbox hb; have BK462 := am (hbox); have GW462 := gw hg HB; have GE462 := gw hg HB; replace HB := sb HB hb; clear hb hbox hg) | ((with_reducible refine gate_callee (f := 110) rfl ?_); refine goesL_ (some 11) rfl rfl Tryd.func110 (by kernel_rfl) rfl #[.string a0, .int .i64 8] rfl ar ?_; (with_reducible refine (code_take.calls a0 8 t463 t464 true _ A2.out).mono ?_); rintro e w' ⟨rfl, ⟨nd, rfl⟩⟩; refine ⟨_, rfl, ?_⟩; (try (rw [drewN_self w27]; generalize hq_ : World.drewN w27 _ = w27; have n0_ : Aside0 (w27.heap[gb462]? = some (.cells #[.int .i64 0, .int .i64 0, .float .f64 0, .string (⟨#[]⟩ : ByteArray)] 50 (0, 0))) := ⟨by rw [← hq_]; exact (bk BK462)⟩; have n1_ : Aside0 (Below w.heap.size w w27) := ⟨by rw [← hq_]; exact (bl HB)⟩; clear BK462 HB hq_; have BK462 := n0_; have HB := n1_; clear n0_ n1_)); (try have Zuz28 : w27.cell? ⟨gb462, 0, none⟩ = some (.int .i64 0) := (blk_cell BK462.out 0).trans rfl); (try have Yuz28 := blk_frozen BK462.out 0); (try have Zuz29 : w27.cell? ⟨gb462, 1, none⟩ = some (.int .i64 0) := (blk_cell BK462.out 1).trans rfl); (try have Yuz29 := blk_frozen BK462.out 1); (try have Zuz30 : w27.cell? ⟨gb462, 2, none⟩ = some (.float .f64 0) := (blk_cell BK462.out 2).trans rfl); (try have Yuz30 := blk_frozen BK462.out 2); (try have Zuz31 : w27.cell? ⟨gb462, 3, none⟩ = some (.string (⟨#[]⟩ : ByteArray)) := (blk_cell BK462.out 3).trans rfl); (try have Yuz31 := blk_frozen BK462.out 3)) | ((with_reducible refine gate_callee (f := 144) rfl ?_); refine goesL_ (some 19) rfl rfl Tryd.func144 (by kernel_rfl) rfl #[.string t463] rfl ar ?_; (with_reducible refine (code_number.calls k t463 t466 _ A4.out).mono ?_); rintro e w' ⟨rfl, ⟨nd, rfl⟩⟩; refine ⟨_, rfl, ?_⟩; (try (rw [drewN_self w27]; generalize hq_ : World.drewN w27 _ = w27; have n0_ : Aside0 (w27.heap[gb462]? = some (.cells #[.int .i64 0, .int .i64 0, .float .f64 0, .string (⟨#[]⟩ : ByteArray)] 50 (0, 0))) := ⟨by rw [← hq_]; exact (bk BK462)⟩; have n1_ : Aside0 (Below w.heap.size w w27) := ⟨by rw [← hq_]; exact (bl HB)⟩; clear BK462 HB hq_; have BK462 := n0_; have HB := n1_; clear n0_ n1_)); (try have Zuz32 : w27.cell? ⟨gb462, 0, none⟩ = some (.int .i64 0) := (blk_cell BK462.out 0).trans rfl); (try have Yuz32 := blk_frozen BK462.out 0); (try have Zuz33 : w27.cell? ⟨gb462, 1, none⟩ = some (.int .i64 0) := (blk_cell BK462.out 1).trans rfl); (try have Yuz33 := blk_frozen BK462.out 1); (try have Zuz34 : w27.cell? ⟨gb462, 2, none⟩ = some (.float .f64 0) := (blk_cell BK462.out 2).trans rfl); (try have Yuz34 := blk_frozen BK462.out 2); (try have Zuz35 : w27.cell? ⟨gb462, 3, none⟩ = some (.string (⟨#[]⟩ : ByteArray)) := (blk_cell BK462.out 3).trans rfl); (try have Yuz35 := blk_frozen BK462.out 3)) | ((with_reducible refine gate_dst (N := 8) rfl ?_); refine box_event rfl (N := 8) rfl (cs := #[.int .i64 0, .int .i64 0, .float .f64 0, .string (⟨#[]⟩ : ByteArray)]) (t := 50) gs ?_; intro gb472 hg w36 hbox hb; have BK472 := am (hbox); have GW472 := gw hg HB; have GE472 := gw hg HB; have NB462_472 := am ((by rw [hg]; exact Nat.ne_of_lt (blk_lt (bk BK462)) : gb462 ≠ gb472)); have NB472_462 := am ((by rw [hg]; exact Nat.ne_of_gt (blk_lt (bk BK462)) : gb472 ≠ gb462)); replace BK462 := kb BK462 hb; replace HB := sb HB hb; clear hb hbox hg; have hnb37 := NB472_462.out; have hnc37 := NB462_472.out; obtain ⟨Z38_0, Z38_1, Z38_2, Z38_3, Y38_0, Y38_1, Y38_2, Y38_3⟩ := bq4 BK472))
      have n0_ : Aside0 (((((w36.setCell ⟨gb472, 0, none⟩ (.int .i64 3)).setCell ⟨gb472, 1, none⟩ (.int .i64 0)).setCell ⟨gb472, 2, none⟩ (.float .f64 ((not64 t466).toNat))).setCell ⟨gb472, 3, none⟩ (.string (⟨#[]⟩ : ByteArray))).heap[gb462]? = some (.cells #[.int .i64 0, .int .i64 0, .float .f64 0, .string (⟨#[]⟩ : ByteArray)] 50 (0, 0))) := ⟨by refine rp ?_; refine blk_far ?_ NB462_472.out _; refine rp ?_; refine blk_far ?_ NB462_472.out _; refine rp ?_; refine blk_far ?_ NB462_472.out _; refine rp ?_; refine blk_far ?_ NB462_472.out _; exact bk BK462⟩
      have n1_ : Aside0 (((((w36.setCell ⟨gb472, 0, none⟩ (.int .i64 3)).setCell ⟨gb472, 1, none⟩ (.int .i64 0)).setCell ⟨gb472, 2, none⟩ (.float .f64 ((not64 t466).toNat))).setCell ⟨gb472, 3, none⟩ (.string (⟨#[]⟩ : ByteArray))).heap[gb472]? = some (.cells #[.int .i64 3, .int .i64 0, .float .f64 ((not64 t466).toNat), .string (⟨#[]⟩ : ByteArray)] 50 (0, 0))) := ⟨by refine rp ?_; refine blk_put (cs := #[.int .i64 3, .int .i64 0, .float .f64 ((not64 t466).toNat), .string (⟨#[]⟩ : ByteArray)]) ?_ 3 _ rfl; refine rp ?_; refine blk_put (cs := #[.int .i64 3, .int .i64 0, .float .f64 0, .string (⟨#[]⟩ : ByteArray)]) ?_ 2 _ rfl; refine rp ?_; refine blk_put (cs := #[.int .i64 3, .int .i64 0, .float .f64 0, .string (⟨#[]⟩ : ByteArray)]) ?_ 1 _ rfl; refine rp ?_; refine blk_put (cs := #[.int .i64 0, .int .i64 0, .float .f64 0, .string (⟨#[]⟩ : ByteArray)]) ?_ 0 _ rfl; exact bk BK472⟩
      have n2_ : Aside0 (Below w.heap.size w ((((w36.setCell ⟨gb472, 0, none⟩ (.int .i64 3)).setCell ⟨gb472, 1, none⟩ (.int .i64 0)).setCell ⟨gb472, 2, none⟩ (.float .f64 ((not64 t466).toNat))).setCell ⟨gb472, 3, none⟩ (.string (⟨#[]⟩ : ByteArray)))) := ⟨bl HB⟩
      (try clear BK462)
      (try clear BK472)
      (try clear HB)
      generalize ((((w36.setCell ⟨gb472, 0, none⟩ (.int .i64 3)).setCell ⟨gb472, 1, none⟩ (.int .i64 0)).setCell ⟨gb472, 2, none⟩ (.float .f64 ((not64 t466).toNat))).setCell ⟨gb472, 3, none⟩ (.string (⟨#[]⟩ : ByteArray))) = w39 at n0_ n1_ n2_ ⊢
      have BK462 := n0_
      have BK472 := n1_
      have HB := n2_
      clear n0_ n1_ n2_
      have n0_ := am (blk_drew BK462.out)
      have n1_ := am (blk_drew BK472.out)
      have n2_ := am (below_drew1 HB.out)
      clear BK462
      clear BK472
      clear HB
      have BK462 := n0_
      have BK472 := n1_
      have HB := n2_
      clear n0_ n1_ n2_
      refine start_ (n := 11) (S := fun w' => w'.cell? ⟨gb472, 0, none⟩ = some (.int .i64 3) ∧ w'.cell? ⟨gb472, 1, none⟩ = some (.int .i64 0) ∧ w'.cell? ⟨gb472, 2, none⟩ = some (.float .f64 ((not64 t466).toNat)) ∧ w'.cell? ⟨gb472, 3, none⟩ = some (.string (⟨#[]⟩ : ByteArray))) (ds := []) (bb 0 11) (by kernel_rfl) rfl rfl ⟨(blk_cell BK472.out 0).trans rfl, (blk_cell BK472.out 1).trans rfl, (blk_cell BK472.out 2).trans rfl, (blk_cell BK472.out 3).trans rfl⟩ (fun hHeld => ?_); refine with_tabW code_getFloat.tab9 code_getFloat.bits9 (fun HT_ HW_ => ?_)
      generalize w39.drew = w40 at BK462 BK472 HB hHeld ⊢
      refine pu HT_ 1 (some 31) (bs 11 2) ?_
      refine pu HT_ 6 (some 36) (bs 11 66) ?_
      refine tk HT_ HW_ hHeld 0 (some 30) (bs 11 67) ?_
      refine tk HT_ HW_ hHeld 2 (some 32) (bs 11 71) ?_
      refine one_ (i := 3) (N := some 33) (bs 11 79) rfl rfl (one_of HT_.out (by kernel_rfl)) (by decide) (fun K hK => ?_)
      refine goes_ Tryd.func102 (by kernel_rfl) rfl #[.agg #[.int .i64 3, .int .i64 0, .float .f64 ((not64 t466).toNat), .string (⟨#[]⟩ : ByteArray)]] (by rfl) rfl rfl ar ?_
      with_reducible refine (value_Plain.calls k 3 0 ((not64 t466).toNat) (⟨#[]⟩ : ByteArray) t473 t474 t475 t476 _ A26.out).mono ?_
      rintro e w41 ⟨rfl, hb⟩
      refine ⟨_, rfl, ?_⟩
      have n0_ := kb BK462 hb
      have n1_ := kb BK472 hb
      have n2_ := sb HB hb
      clear BK462
      clear BK472
      clear HB
      have BK462 := n0_
      have BK472 := n1_
      have HB := n2_
      clear n0_ n1_ n2_
      (try clear hb)
      (try clear hb2)
      (try clear hk)
      (try clear hi)
      refine hK.out _ _ ⟨(blk_cell BK472.out 0).trans rfl, (blk_cell BK472.out 1).trans rfl, (blk_cell BK472.out 2).trans rfl, (blk_cell BK472.out 3).trans rfl⟩ (fun hHeld => ?_)
      clear hK K
      refine norm_ (a' := ?_) ?_ ?_
      rotate_left
      · show Act.put _ (some 33) _ = _
        simp only [Act.put, List.setIfInBounds_toArray, List.set_cons_zero, List.set_cons_succ, i64_w, i32_w]
        rfl
      refine pu HT_ 4 (some 34) (bs 11 95) ?_
      refine pu HT_ 5 (some 35) (bb 7 11) ?_
      refine pu HT_ 7 (some 37) (bb 8 11) ?_
      refine one_ (i := 8) (N := none) (bb 9 11) rfl rfl (one_of HT_.out (by kernel_rfl)) (by decide) (fun K hK => ?_)
      have hs42 : w41.cell? ⟨gb462, 0, none⟩ = some (.int .i64 0) := (blk_cell BK462.out 0).trans rfl
      have hfs42 := blk_frozen BK462.out 0
      have hns42_1 := NB472_462.out
      have hms42_1 := NB462_472.out
      have hs43 : w41.cell? ⟨gb462, 1, none⟩ = some (.int .i64 0) := (blk_cell BK462.out 1).trans rfl
      have hfs43 := blk_frozen BK462.out 1
      have hns43_1 := NB472_462.out
      have hms43_1 := NB462_472.out
      have hs44 : w41.cell? ⟨gb462, 2, none⟩ = some (.float .f64 0) := (blk_cell BK462.out 2).trans rfl
      have hfs44 := blk_frozen BK462.out 2
      have hns44_1 := NB472_462.out
      have hms44_1 := NB462_472.out
      have hs45 : w41.cell? ⟨gb462, 3, none⟩ = some (.string (⟨#[]⟩ : ByteArray)) := (blk_cell BK462.out 3).trans rfl
      have hfs45 := blk_frozen BK462.out 3
      have hns45_1 := NB472_462.out
      have hms45_1 := NB462_472.out
      refine skip_ (w1 := ?_) (by rfl) rfl ?_ ?_
      rotate_left
      · go_simp
        rfl
      refine hK.out _ _ ⟨((cell_far (p := ⟨gb462, _, none⟩) NB472_462.out _).trans (((cell_far (p := ⟨gb462, _, none⟩) NB472_462.out _).trans (((cell_far (p := ⟨gb462, _, none⟩) NB472_462.out _).trans (((cell_far (p := ⟨gb462, _, none⟩) NB472_462.out _).trans (hHeld.1)))))))), ((cell_far (p := ⟨gb462, _, none⟩) NB472_462.out _).trans (((cell_far (p := ⟨gb462, _, none⟩) NB472_462.out _).trans (((cell_far (p := ⟨gb462, _, none⟩) NB472_462.out _).trans (((cell_far (p := ⟨gb462, _, none⟩) NB472_462.out _).trans (hHeld.2.1)))))))), ((cell_far (p := ⟨gb462, _, none⟩) NB472_462.out _).trans (((cell_far (p := ⟨gb462, _, none⟩) NB472_462.out _).trans (((cell_far (p := ⟨gb462, _, none⟩) NB472_462.out _).trans (((cell_far (p := ⟨gb462, _, none⟩) NB472_462.out _).trans (hHeld.2.2.1)))))))), ((cell_far (p := ⟨gb462, _, none⟩) NB472_462.out _).trans (((cell_far (p := ⟨gb462, _, none⟩) NB472_462.out _).trans (((cell_far (p := ⟨gb462, _, none⟩) NB472_462.out _).trans (((cell_far (p := ⟨gb462, _, none⟩) NB472_462.out _).trans (hHeld.2.2.2))))))))⟩ (fun hHeld => ?_)
      clear hK K
      refine pu HT_ 9 (some 3) (bb 10 11) ?_
      refine pu HT_ 10 (some 4) (bb 11 11) ?_
      refine done_ (done_of HT_.out (by kernel_rfl)) ?_
      try go_wp2
      refine bodyPost_ret (results_ctt rfl _ _ gb462 50 #[.int .i64 3, .int .i64 0, .float .f64 ((not64 t466).toNat), .string (⟨#[]⟩ : ByteArray)] (0, 0) _ rfl (by refine rp ?_; refine blk_put (cs := #[.int .i64 3, .int .i64 0, .float .f64 ((not64 t466).toNat), .string (⟨#[]⟩ : ByteArray)]) ?_ 3 _ rfl; refine rp ?_; refine blk_put (cs := #[.int .i64 3, .int .i64 0, .float .f64 0, .string (⟨#[]⟩ : ByteArray)]) ?_ 2 _ rfl; refine rp ?_; refine blk_put (cs := #[.int .i64 3, .int .i64 0, .float .f64 0, .string (⟨#[]⟩ : ByteArray)]) ?_ 1 _ rfl; refine rp ?_; refine blk_put (cs := #[.int .i64 0, .int .i64 0, .float .f64 0, .string (⟨#[]⟩ : ByteArray)]) ?_ 0 _ rfl; exact bk BK462) Tryd.underlying50 rfl (by kernel_rfl)) rfl ?_
      exact ⟨er, bl HB⟩
  · replace c3 := Bool.eq_false_iff.mpr c3
    subst c3
    have H1 : (some (0, 0, 0, (⟨#[]⟩ : ByteArray), (⟨#[]⟩ : ByteArray), false)) = some (r1, r2, r3, r4, r5, r6) := by rw [if_neg (show ¬ (false = true) by decide)] at H; exact H
    clear H
    have H := H1
    clear H1
    simp only [Option.some.injEq, Prod.mk.injEq] at H
    obtain ⟨rfl, rfl, rfl, rfl, rfl, rfl⟩ := H
    go_enter Tryd.func112, Tryd.ntmps112
    go_wp2_with (first | ((with_reducible refine gate_dst (N := 2) rfl ?_); refine box_event rfl (N := 2) rfl (cs := #[.int .i64 0, .int .i64 0, .float .f64 0, .string (⟨#[]⟩ : ByteArray)]) (t := 50) gs ?_; intro gb462 hg w46 hbox hb; have BK462 := am (hbox); have GW462 := gw hg HB; have GE462 := gw hg HB; replace HB := sb HB hb; clear hb hbox hg) | ((with_reducible refine gate_callee (f := 110) rfl ?_); refine goesL_ (some 11) rfl rfl Tryd.func110 (by kernel_rfl) rfl #[.string a0, .int .i64 8] rfl ar ?_; (with_reducible refine (code_take.calls a0 8 t463 t464 false _ A2.out).mono ?_); rintro e w' ⟨rfl, ⟨nd, rfl⟩⟩; refine ⟨_, rfl, ?_⟩; (try (rw [drewN_self w46]; generalize hq_ : World.drewN w46 _ = w46; have n0_ : Aside0 (w46.heap[gb462]? = some (.cells #[.int .i64 0, .int .i64 0, .float .f64 0, .string (⟨#[]⟩ : ByteArray)] 50 (0, 0))) := ⟨by rw [← hq_]; exact (bk BK462)⟩; have n1_ : Aside0 (Below w.heap.size w w46) := ⟨by rw [← hq_]; exact (bl HB)⟩; clear BK462 HB hq_; have BK462 := n0_; have HB := n1_; clear n0_ n1_)); (try have Zuz47 : w46.cell? ⟨gb462, 0, none⟩ = some (.int .i64 0) := (blk_cell BK462.out 0).trans rfl); (try have Yuz47 := blk_frozen BK462.out 0); (try have Zuz48 : w46.cell? ⟨gb462, 1, none⟩ = some (.int .i64 0) := (blk_cell BK462.out 1).trans rfl); (try have Yuz48 := blk_frozen BK462.out 1); (try have Zuz49 : w46.cell? ⟨gb462, 2, none⟩ = some (.float .f64 0) := (blk_cell BK462.out 2).trans rfl); (try have Yuz49 := blk_frozen BK462.out 2); (try have Zuz50 : w46.cell? ⟨gb462, 3, none⟩ = some (.string (⟨#[]⟩ : ByteArray)) := (blk_cell BK462.out 3).trans rfl); (try have Yuz50 := blk_frozen BK462.out 3); obtain ⟨Z51_0, Z51_1, Z51_2, Z51_3, Y51_0, Y51_1, Y51_2, Y51_3⟩ := bq4 BK462))
    refine bodyPost_ret (results_ctt rfl _ _ gb462 50 #[.int .i64 0, .int .i64 0, .float .f64 0, .string (⟨#[]⟩ : ByteArray)] (0, 0) _ rfl (by refine rp ?_; refine blk_put (cs := #[.int .i64 0, .int .i64 0, .float .f64 0, .string (⟨#[]⟩ : ByteArray)]) ?_ 3 _ rfl; refine rp ?_; refine blk_put (cs := #[.int .i64 0, .int .i64 0, .float .f64 0, .string (⟨#[]⟩ : ByteArray)]) ?_ 2 _ rfl; refine rp ?_; refine blk_put (cs := #[.int .i64 0, .int .i64 0, .float .f64 0, .string (⟨#[]⟩ : ByteArray)]) ?_ 1 _ rfl; refine rp ?_; refine blk_put (cs := #[.int .i64 0, .int .i64 0, .float .f64 0, .string (⟨#[]⟩ : ByteArray)]) ?_ 0 _ rfl; exact bk BK462) Tryd.underlying50 rfl (by kernel_rfl)) rfl ?_
    exact ⟨er, bl HB⟩
end Go.Proofs.YtpiifdbicibelaaDoor.PA
end
section
namespace Go.Proofs.YtpiifdbicibelaaDoorW.PrintWords
open Go.RowKit Go.Proofs
set_option linter.unusedVariables false
set_option linter.unusedSimpArgs false
set_option maxHeartbeats 1000000 in
set_option maxRecDepth 100000 in
theorem copyCheck_used (b : Nat) (w : World) (h0 : w.cell? ⟨b, 0, none⟩ = some (.pointer (some ⟨b, 0, none⟩))) :
    Calls Tryd.prog 176 #[.pointer (some ⟨b, 0, none⟩)] w fun e w' => e = .returned (.tuple #[]) ∧ w' = w := by
  obtain ⟨j, hj, _⟩ := Option.map_eq_some_iff.1 (show (Tryd.prog.info? 153).map (·.size) = some 2 by kernel_rfl)
  go_enter Tryd.func176, Tryd.ntmps176
  go_wp2
  rw [Lib.run_neq_ptr_same w _ Tryd.underlying151 hj]
  go_wp2
  go_end0
  exact ⟨rfl, rfl⟩
set_option maxHeartbeats 1000000 in
set_option maxRecDepth 100000 in
theorem copyCheck_fresh (b : Nat) (w : World) (h0 : w.cell? ⟨b, 0, none⟩ = some (.pointer none)) (hsh : w.shape? b = some (153, 2)) (hfz : w.frozen? ⟨b, 0, none⟩ = false) :
    Calls Tryd.prog 176 #[.pointer (some ⟨b, 0, none⟩)] w fun e w' => e = .returned (.tuple #[]) ∧ w' = w.setCell ⟨b, 0, none⟩ (.pointer (some ⟨b, 0, none⟩)) := by
  obtain ⟨j, hj, hjs⟩ := Option.map_eq_some_iff.1 (show (Tryd.prog.info? 153).map (·.size) = some 2 by kernel_rfl)
  have hlies := Tryd.Builder_Extra_169.liesBuilder
  go_enter Tryd.func176, Tryd.ntmps176
  go_wp2
  rw [Lib.run_to_unsafe w ⟨b, 0, none⟩ Tryd.underlying151 Tryd.underlying195 hj (by rw [hjs]; decide) hsh (Nat.zero_lt_succ 1)]
  simp only [Result.andThen]
  rw [Oper.upon_value]
  go_wp2
  rw [run_callFunc_extern Tryd.func190 (by kernel_rfl) (by kernel_rfl) (by kernel_rfl) (e := Extern.AbiNoEscape.same) (by kernel_rfl)]
  rw [Lib.run_noEscape]
  simp only [Result.andThen]
  rw [Oper.upon_value]
  go_wp2
  rw [Lib.run_from_unsafe w ⟨b, 0, none⟩ Tryd.underlying195 Tryd.underlying151 hj hsh hlies]
  simp only [Result.andThen]
  rw [Oper.upon_value]
  go_wp2
  go_end0
  exact ⟨rfl, rfl⟩
theorem copyCheck_any (B b : Nat) (bs : List Value) (w : World) (h : Lib.IsBuilderF 153 5 B b bs w) :
    Calls Tryd.prog 176 #[.pointer (some ⟨b, 0, none⟩)] w fun e w' => e = .returned (.tuple #[]) ∧ (Lib.BuilderAtF 153 5 B b (.pointer (some ⟨b, 0, none⟩)) bs w' ∧ Below B w w') := by
  rcases h with h | h
  · refine (copyCheck_fresh b w h.cell0 h.shape h.frozen0).mono ?_
    rintro e w' ⟨rfl, rfl⟩
    exact ⟨rfl, h.used _, (Below.refl B w).setCell (p := ⟨b, 0, none⟩) h.1 _⟩
  · refine (copyCheck_used b w h.cell0).mono ?_
    rintro e w' ⟨rfl, rfl⟩
    exact ⟨rfl, h, Below.refl B _⟩
theorem info5_ : (Tryd.prog.info? 5).map (fun i => (i.zero, i.size, i.bytes)) = some (some (.int .u8 0), 1, 1) := by kernel_rfl
set_option maxHeartbeats 2000000 in
set_option maxRecDepth 100000 in
theorem writeByte_any (B b : Nat) (bs : List Value) (c : Int) (w : World) (h : Lib.IsBuilderF 153 5 B b bs w) (hlen : bs.length + 1 ≤ 140737488355328) (hBw : B ≤ w.heap.size) :
    Calls Tryd.prog 145 #[.pointer (some ⟨b, 0, none⟩), .int .u8 c] w fun e w' => e = .returned .nilIface ∧ (Lib.IsBuilderF 153 5 B b (bs ++ [.int .u8 c]) w' ∧ Below B w w') := by
  obtain ⟨i0, hi, hz0, hz1, hz2⟩ := info_parts info5_
  go_enter Tryd.func145, Tryd.ntmps145
  go_wp2_with fail
  refine (copyCheck_any B b bs _ h).mono ?_
  rintro e w1 ⟨rfl, h1, hb1⟩
  obtain ⟨hB, v, hbk, hown, hne⟩ := h1
  have c0 : w1.cell? ⟨b, 0, none⟩ = some (.pointer (some ⟨b, 0, none⟩)) := by rw [Lib.cell_of_heap hbk]; rfl
  have c1 : w1.cell? ⟨b, 1, none⟩ = some v := by rw [Lib.cell_of_heap hbk]; rfl
  go_wp2_with (at_builtin; refine wpList_append_ownF _ rfl _ _ 80 rfl B 5 i0 (.int .u8 0) 1 1 Tryd.underlying80 hi hz0 hz1 hz2 rfl (by decide) _ _ _ rfl (hown.alloc _) ⟨w1.heap.size, 0, none⟩ 1 1 [.int .u8 c] rfl rfl ?c1 ?c2 ?c3 ?c4 ?c5 ?_)
  case c1 =>
    intro j u hj
    match j, hj with
    | 0, hj => simp at hj; subst hj; simp [Addr.add]
  case c2 => intro u hu; simp at hu; subst hu; rfl
  case c3 => unfold maxLen; omega
  case c4 => omega
  case c5 => have := hb1.size; simp; omega
  intro v' w2 hown' hgrow _
  have hlt : b < w1.heap.size := by
    rcases Nat.lt_or_ge b w1.heap.size with h' | h'
    · exact h'
    · simp [Array.getElem?_eq_none h'] at hbk
  have hb2 : w2.heap[b]? = some (.cells #[.pointer (some ⟨b, 0, none⟩), v] 153 (0, 0)) := by
    rw [hgrow.block b (by simp; omega) (fun e => hne e.symm), Lib.alloc_old w1 _ b hlt]
    exact hbk
  have d0 : w2.cell? ⟨b, 0, none⟩ = some (.pointer (some ⟨b, 0, none⟩)) := by rw [Lib.cell_of_heap hb2]; rfl
  have d1 : w2.cell? ⟨b, 1, none⟩ = some v := by rw [Lib.cell_of_heap hb2]; rfl
  have f1 : w2.frozen? ⟨b, 1, none⟩ = false := Lib.frozen_of_heap hb2 1
  obtain ⟨g, cap, rfl⟩ : ∃ g cap, v' = .slice (some ⟨g, 0, none⟩) (bs.length + 1) cap := by
    rcases hown'.2 with ⟨_, h0⟩ | ⟨g, cap, cur, fz, hv, _⟩
    · omega
    · exact ⟨g, cap, hv⟩
  go_wp2
  go_ret
  refine ⟨rfl, .inr ?_, ?_⟩
  · exact Lib.BuilderAtF.put (T := 153) (e := 5) hB hb2 (bs' := bs ++ [.int .u8 c]) (by simpa using hown') (by decide)
  · exact ((hb1.alloc (by have := hb1.size; omega) _).grown hgrow (by have := hb1.size; simp; omega) (fun k hk => (hown.lt k hk).1)).setCell (p := ⟨b, 1, none⟩) hB _
/-- A text off the begin of some bytes: a zero with 255 behind it is a zero; a zero alone ends it. -/
def textOff : List UInt8 → List UInt8 → Option (List UInt8 × List UInt8)
  | _, [] => none
  | acc, 0 :: 255 :: l => textOff (acc ++ [0]) l
  | acc, 0 :: l => some (acc, l)
  | acc, b :: l => textOff (acc ++ [b]) l
/-- vellum/code.getString -/
def code_getString.f (s : ByteArray) : Option (ByteArray × ByteArray × Bool) :=
  if s.size ≤ 140737488355320 then some (match textOff [] s.data.toList with | some (t, l) => (⟨t.toArray⟩, ⟨l.toArray⟩, true) | none => ((⟨#[]⟩ : ByteArray), (⟨#[]⟩ : ByteArray), false)) else none
theorem textOff_ne {acc : List UInt8} {b : UInt8} {l : List UInt8} (h : b ≠ 0) : textOff acc (b :: l) = textOff (acc ++ [b]) l := by
  rw [textOff.eq_4]
  · intro l' h1 h2; exact h h1
  · intro h1; exact h h1
theorem textOff_zero {acc l : List UInt8} (h : ∀ l', l ≠ 255 :: l') : textOff acc (0 :: l) = some (acc, l) := by
  rw [textOff.eq_3]
  intro l' h1; exact h l' h1
theorem extract_tail (s : ByteArray) (i : Nat) : s.extract i s.size = ⟨(s.data.toList.drop i).toArray⟩ := by
  apply Go.WideShapes.bytes_inj
  simp [ByteArray.data_extract]
  rw [List.take_of_length_le (by simp)]
theorem string_any (B b : Nat) (l : List UInt8) (w : World) (h : Lib.IsBuilderF 153 5 B b (Lib.byteCells l) w) (hBw : B ≤ w.heap.size) :
    Calls Tryd.prog 146 #[.pointer (some ⟨b, 0, none⟩)] w fun e w' => e = .returned (.string ⟨l.toArray⟩) ∧ Below B w w' :=
  (Tryd.Builder_String_any_k B b l w h hBw).mono fun _ _ h => ⟨h.1, h.2.2.1⟩
set_option maxHeartbeats 4000000 in
set_option maxRecDepth 100000 in
theorem code_getString.calls (a0 : ByteArray) (r1 r2 : ByteArray) (r3 : Bool) (w : World) (h : code_getString.f a0 = some (r1, r2, r3)) :
    Calls Tryd.prog 113 #[.string a0] w fun e w' => e = .returned (.tuple #[.string r1, .string r2, .bool r3]) ∧ Below w.heap.size w w' := by
  unfold code_getString.f at h
  split at h
  case isFalse => cases h
  rename_i hsz
  have HR := Aside0.mk (Option.some.inj h)
  clear h
  obtain ⟨R, hR⟩ : ∃ R, R = textOff [] a0.data.toList := ⟨_, rfl⟩
  rw [← hR] at HR
  have HRR := Aside0.mk hR
  clear hR
  have hlen : a0.data.toList.length = a0.size := by simp
  have HL := Aside0.mk hlen
  clear hlen
  go_enter Tryd.func113, Tryd.ntmps113
  go_wp2
  go_loopg [6] a0.size (fun gg s6 wr => ∃ (i : Nat) (acc : List UInt8), s6 = .int .i64 i ∧ Aside0 (i ≤ a0.size) ∧ Aside0 (a0.size - i ≤ gg) ∧ Aside0 (textOff acc (a0.data.toList.drop i) = R) ∧ Aside0 (acc.length ≤ i) ∧ Aside0 (Lib.IsBuilderF 153 5 w.heap.size w.heap.size (Lib.byteCells acc) wr) ∧ Aside0 (Below w.heap.size w wr))
  case atStart =>
    refine ⟨0, [], rfl, ⟨Nat.zero_le _⟩, ⟨by omega⟩, ⟨HRR.out.symm⟩, ⟨Nat.zero_le _⟩, ⟨.inl ⟨Nat.le_refl _, .slice none 0 0, by rw [heap_alloc_new], World.ownsRowF_nil _ _ _ _, by simp [Value.ownBlock]⟩⟩, ⟨(Below.refl _ _).alloc (Nat.le_refl _) _⟩⟩
  case round =>
    obtain ⟨i, acc, rfl, HI, HM, HT, HA, HB, HW⟩ := hrel
    have hi := HI.out
    by_cases hlt : i < a0.size
    · have hltz : (i : Int) < (a0.size : Int) := by omega
      have hdrop := List.drop_eq_getElem_cons (l := a0.data.toList) (i := i) (by rw [HL.out]; exact hlt)
      have hx0 : ∀ h : i < a0.size, (((a0[i]'h).toNat : Nat) : Int) = (((a0.data.toList[i]'(by rw [HL.out]; exact hlt)).toNat : Nat) : Int) := fun h => rfl
      generalize a0.data.toList[i]'(by rw [HL.out]; exact hlt) = b at hdrop hx0
      have HD := Aside0.mk hdrop
      clear hdrop
      obtain ⟨x, hxb⟩ : ∃ x : Int, x = (b.toNat : Int) := ⟨_, rfl⟩
      have hx : ∀ h : i < a0.size, (((a0[i]'h).toNat : Nat) : Int) = x := fun h => (hx0 h).trans hxb.symm
      have HX := Aside0.mk hxb
      clear hx0 hxb
      by_cases h0 : b = 0
      · subst h0
        have e0 : x = 0 := HX.out
        have c0 : (x == 0) = true := beq_iff_eq.mpr e0
        have c1 : (x != 0) = false := bne_eq_false_iff_eq.mpr e0
        clear e0
        by_cases h2 : i + 1 < a0.size
        · have h2z : (i : Int) + 1 < (a0.size : Int) := by omega
          have hdrop := List.drop_eq_getElem_cons (l := a0.data.toList) (i := i + 1) (by rw [HL.out]; exact h2)
          have hy0 : ∀ h : i + 1 < a0.size, (((a0[i + 1]'h).toNat : Nat) : Int) = (((a0.data.toList[i + 1]'(by rw [HL.out]; exact h2)).toNat : Nat) : Int) := fun h => rfl
          generalize a0.data.toList[i + 1]'(by rw [HL.out]; exact h2) = b2 at hdrop hy0
          have HD2 := Aside0.mk hdrop
          clear hdrop
          obtain ⟨y, hyb⟩ : ∃ y : Int, y = (b2.toNat : Int) := ⟨_, rfl⟩
          have hy : ∀ h : i + 1 < a0.size, (((a0[i + 1]'h).toNat : Nat) : Int) = y := fun h => (hy0 h).trans hyb.symm
          have HY := Aside0.mk hyb
          clear hy0 hyb
          by_cases h3 : b2 = 255
          · subst h3
            have e0 : y = 255 := HY.out
            have d0 : (y == 255) = true := beq_iff_eq.mpr e0
            clear e0
            go_wp2_with fail
            refine (writeByte_any w.heap.size w.heap.size (Lib.byteCells acc) _ _ HB.out (by rw [Lib.byteCells_length]; have := HA.out; omega) HW.out.size).mono ?_
            rintro e w1 ⟨rfl, hB1, hW1⟩
            have HB1 := Aside0.mk hB1
            have HW1 := Aside0.mk hW1
            clear hB1 hW1
            go_wp2
            go_roundg (a0.size - (i + 2))
            case measure => have := HM.out; omega
            case rel =>
              refine ⟨i + 2, acc ++ [0], by go_num, ⟨by omega⟩, ⟨by omega⟩, ⟨?_⟩, ⟨by simp; have := HA.out; omega⟩, ⟨?_⟩, ⟨HW.out.trans HW1.out⟩⟩
              · rw [← HT.out, HD.out, HD2.out, textOff]
              · have e : Lib.byteCells (acc ++ [0]) = Lib.byteCells acc ++ [.int .u8 0] := by simp [Lib.byteCells]
                rw [e]; exact HB1.out
          · have e0 : ¬ y = 255 := by rw [HY.out]; intro hh; exact h3 (UInt8.toNat_inj.1 (show b2.toNat = 255 by omega))
            have d0 : (y == 255) = false := beq_eq_false_iff_ne.mpr e0
            clear e0
            have hn : R = some (acc, a0.data.toList.drop (i + 1)) := by
              rw [← HT.out, HD.out, textOff_zero]; intro l' hl
              rw [HD2.out] at hl
              injection hl with hl _
              exact h3 hl
            rw [hn] at HR
            have hr := HR.out
            simp only [Prod.mk.injEq] at hr
            obtain ⟨rfl, rfl, rfl⟩ := hr
            have hcon := string_any w.heap.size w.heap.size acc wr.drew HB.out HW.out.size
            have hex := extract_tail a0 (i + 1)
            have HE := Aside0.mk hex
            clear hex hn
            go_wp2
            have hwr : IntKind.i64.wrap ((i : Int) + 1) = (i : Int) + 1 := IntWalk.i64_in _ (by omega)
            have hw0 : 0 ≤ (i : Int) + 1 := by omega
            have hw1 : ((i : Int) + 1).toNat = i + 1 := by omega
            have hw2 : (i : Int) + 1 ≤ (a0.size : Int) := by omega
            go_region_with (go_at_call 146; refine hcon.mono ?_; rintro e w1 ⟨rfl, hW1⟩)
            all_goals
              go_wp2
              go_ret3
              refine ⟨?_, (below_drew1 HW.out).trans hW1⟩
              first | (rw [HE.out]; done) | (rw [HE.out]; rfl)
        · have h2z : ¬ (i : Int) + 1 < (a0.size : Int) := by omega
          have hn : R = some (acc, a0.data.toList.drop (i + 1)) := by
            rw [← HT.out, HD.out, textOff_zero]; intro l' hl
            rw [List.drop_of_length_le (by rw [HL.out]; omega)] at hl
            cases hl
          rw [hn] at HR
          have hr := HR.out
          simp only [Prod.mk.injEq] at hr
          obtain ⟨rfl, rfl, rfl⟩ := hr
          have hcon := string_any w.heap.size w.heap.size acc wr.drew HB.out HW.out.size
          have hex := extract_tail a0 (i + 1)
          have HE := Aside0.mk hex
          clear hex hn
          go_wp2
          have hwr : IntKind.i64.wrap ((i : Int) + 1) = (i : Int) + 1 := IntWalk.i64_in _ (by omega)
          have hw0 : 0 ≤ (i : Int) + 1 := by omega
          have hw1 : ((i : Int) + 1).toNat = i + 1 := by omega
          have hw2 : (i : Int) + 1 ≤ (a0.size : Int) := by omega
          go_region_with (go_at_call 146; refine hcon.mono ?_; rintro e w1 ⟨rfl, hW1⟩)
          all_goals
            go_wp2
            go_ret3
            refine ⟨?_, (below_drew1 HW.out).trans hW1⟩
            first | (rw [HE.out]; done) | (rw [HE.out]; rfl)
      · have e0 : ¬ x = 0 := by
          rw [HX.out]; intro hh; exact h0 (UInt8.toNat_inj.1 (show b.toNat = 0 by omega))
        have c0 : (x == 0) = false := beq_eq_false_iff_ne.mpr e0
        have c1 : (x != 0) = true := bne_iff_ne.mpr e0
        clear e0
        go_wp2_with fail
        refine (writeByte_any w.heap.size w.heap.size (Lib.byteCells acc) _ _ HB.out (by rw [Lib.byteCells_length]; have := HA.out; omega) HW.out.size).mono ?_
        rintro e w1 ⟨rfl, hB1, hW1⟩
        have HB1 := Aside0.mk hB1
        have HW1 := Aside0.mk hW1
        clear hB1 hW1
        go_wp2
        go_roundg (a0.size - (i + 1))
        case measure => have := HM.out; omega
        case rel =>
          refine ⟨i + 1, acc ++ [b], by go_num, ⟨by omega⟩, ⟨by omega⟩, ⟨?_⟩, ⟨by simp; exact HA.out⟩, ⟨?_⟩, ⟨HW.out.trans HW1.out⟩⟩
          · rw [← HT.out, HD.out, textOff_ne h0]
          · have e : Lib.byteCells (acc ++ [b]) = Lib.byteCells acc ++ [.int .u8 x] := by rw [HX.out]; simp [Lib.byteCells]
            rw [e]; exact HB1.out
    · obtain rfl : i = a0.size := by omega
      have hltz : ¬ (a0.size : Int) < (a0.size : Int) := by omega
      have hn : R = none := by rw [← HT.out, List.drop_of_length_le (by rw [HL.out]; omega)]; rfl
      rw [hn] at HR
      have hr := HR.out
      simp only [Prod.mk.injEq] at hr
      obtain ⟨rfl, rfl, rfl⟩ := hr
      go_wp2
      go_ret3
      exact ⟨rfl, HW.out⟩
end Go.Proofs.YtpiifdbicibelaaDoorW.PrintWords
end
section
namespace Go.Proofs.YtpiifdbicibelaaDoor.PA
open Go.RowKit Go.Proofs.YtpiifdbicibelaaDoorW.PrintWords Go.Proofs.YtpiifdbicibelaaDoorW.PrintLast Go.Proofs.YtpiifdbicibelaaDoorW.PrintMore
attribute [local go_sem] max2_int min2_int max_two min_two max_three min_three max_four min_four
set_option linter.unusedVariables false
set_option linter.unusedSimpArgs false
def code_get.j0 : Nat → ByteArray → Int → Bool → Option (Int × Int × Nat × ByteArray × ByteArray × Bool)
  | 0, _, _, _ => none
  | k + 1, x0, x5, x57 => if x57 = true then ((code_getString.f x0).bind fun bt493 => (if x5 = 6 then (if bt493.2.2 = true then ((value_Check.f k 5 0 0 bt493.1).bind fun t497 => (some (5, 0, 0, bt493.1, bt493.2.1, (t497 == 0)))) else (some (5, 0, 0, bt493.1, bt493.2.1, false))) else (if bt493.2.2 = true then ((value_Check.f k 4 0 0 bt493.1).bind fun t498 => (some (4, 0, 0, bt493.1, bt493.2.1, (t498 == 0)))) else (some (4, 0, 0, bt493.1, bt493.2.1, false))))) else (some (0, 0, 0, (⟨#[]⟩ : ByteArray), (⟨#[]⟩ : ByteArray), false))
def code_get.f (k : Nat) (a0 : ByteArray) : Option (Int × Int × Nat × ByteArray × ByteArray × Bool) := if 0 < (a0.size : Int) then (if 1 ≤ (a0.size : Int) then (if (bt a0 0) = 1 then (some (0, 0, 0, (⟨#[]⟩ : ByteArray), a0.extract 1 a0.size, true)) else (if (bt a0 0) = 2 then ((code_take.f (a0.extract 1 a0.size) 1).bind fun bt478 => (if bt478.2.2 = true then (if 0 < (bt478.1.size : Int) then (if (bt bt478.1 0) > 1 then (some (0, 0, 0, (⟨#[]⟩ : ByteArray), (⟨#[]⟩ : ByteArray), false)) else (some (1, wrap64 (bt bt478.1 0), 0, (⟨#[]⟩ : ByteArray), bt478.2.1, true))) else (none)) else (some (0, 0, 0, (⟨#[]⟩ : ByteArray), (⟨#[]⟩ : ByteArray), false)))) else (if (bt a0 0) = 3 then ((code_getInt.f k (a0.extract 1 a0.size)).bind fun bt481 => (some (bt481.1, bt481.2.1, bt481.2.2.1, bt481.2.2.2.1, bt481.2.2.2.2.1, bt481.2.2.2.2.2))) else (if (bt a0 0) = 4 then ((code_getFloat.f k (a0.extract 1 a0.size)).bind fun bt487 => (some (bt487.1, bt487.2.1, bt487.2.2.1, bt487.2.2.2.1, bt487.2.2.2.2.1, bt487.2.2.2.2.2))) else (if (bt a0 0) = 5 then (code_get.j0 k (a0.extract 1 a0.size) (bt a0 0) ((bt a0 0) == 5)) else (code_get.j0 k (a0.extract 1 a0.size) (bt a0 0) ((bt a0 0) == 6))))))) else (none)) else (none)
def code_get.T20 : Bool × List (List Nat × List Nat) := (true, [([], []), ([], []), ([], []), ([2], [2]), ([3], [3]), ([4, 3, 3], [3, 4]), ([5, 3], [3, 5]), ([3, 6], [3, 6]), ([0, 5, 0], [0]), ([1, 8, 0, 1, 8], [1]), ([7, 9, 0, 1, 2, 3, 4, 5, 6, 7, 8, 9], [7])])
def code_get.B20 : List Nat := [0, 0, 0, 4, 12, 28, 60, 124, 61, 319, 1023]
theorem code_get.tab20 : rtab .any (opsOf Tryd.f72 20) = code_get.T20 := by kernel_rfl
theorem code_get.bits20 : waitsOk code_get.T20.2 code_get.B20 = true := by kernel_rfl
set_option maxHeartbeats 8000000 in
set_option maxRecDepth 100000 in
theorem code_get.calls (k : Nat) (a0 : ByteArray) (r1 : Int) (r2 : Int) (r3 : Nat) (r4 : ByteArray) (r5 : ByteArray) (r6 : Bool) (w : World) (hG : Glob w) (h : code_get.f k a0 = some (r1, r2, r3, r4, r5, r6)) :
    Calls Tryd.prog 72 #[.string a0] w fun e w' => e = .returned (.tuple #[.agg #[.int .i64 r1, .int .i64 r2, .float .f64 r3, .string r4], .string r5, .bool r6]) ∧ Below w.heap.size w w' := by
  have hu50 := Tryd.underlying50
  have HG := am hG
  clear hG
  have HB := am (Below.refl w.heap.size w)
  have H : (if 0 < (a0.size : Int) then (if 1 ≤ (a0.size : Int) then (if (bt a0 0) = 1 then (some (0, 0, 0, (⟨#[]⟩ : ByteArray), a0.extract 1 a0.size, true)) else (if (bt a0 0) = 2 then ((code_take.f (a0.extract 1 a0.size) 1).bind fun bt478 => (if bt478.2.2 = true then (if 0 < (bt478.1.size : Int) then (if (bt bt478.1 0) > 1 then (some (0, 0, 0, (⟨#[]⟩ : ByteArray), (⟨#[]⟩ : ByteArray), false)) else (some (1, wrap64 (bt bt478.1 0), 0, (⟨#[]⟩ : ByteArray), bt478.2.1, true))) else (none)) else (some (0, 0, 0, (⟨#[]⟩ : ByteArray), (⟨#[]⟩ : ByteArray), false)))) else (if (bt a0 0) = 3 then ((code_getInt.f k (a0.extract 1 a0.size)).bind fun bt481 => (some (bt481.1, bt481.2.1, bt481.2.2.1, bt481.2.2.2.1, bt481.2.2.2.2.1, bt481.2.2.2.2.2))) else (if (bt a0 0) = 4 then ((code_getFloat.f k (a0.extract 1 a0.size)).bind fun bt487 => (some (bt487.1, bt487.2.1, bt487.2.2.1, bt487.2.2.2.1, bt487.2.2.2.2.1, bt487.2.2.2.2.2))) else (if (bt a0 0) = 5 then (code_get.j0 k (a0.extract 1 a0.size) (bt a0 0) ((bt a0 0) == 5)) else (code_get.j0 k (a0.extract 1 a0.size) (bt a0 0) ((bt a0 0) == 6))))))) else (none)) else (none)) = some (r1, r2, r3, r4, r5, r6) := h
  clear h
  by_cases c2 : 0 < (a0.size : Int)
  · rw [if_pos c2] at H
    have c2b0 : decide (0 < (a0.size : Int)) = true := decide_eq_true c2
    have c2b1 : decide (0 < a0.size) = true := decide_eq_true (by omega)
    clear c2
    by_cases c4 : 1 ≤ (a0.size : Int)
    · rw [if_pos c4] at H
      have c4b0 := eq_true c4
      have c4b1 : decide (1 ≤ (a0.size : Int)) = true := decide_eq_true c4
      clear c4
      by_cases c5 : (bt a0 0) = 1
      · rw [if_pos c5] at H
        have c5b0 : ((bt a0 0) == 1) = true := beq_iff_eq.mpr c5
        have c5b1 : ((bt a0 0) != 1) = false := bne_eq_false_iff_eq.mpr c5
        clear c5
        simp only [Option.some.injEq, Prod.mk.injEq] at H
        obtain ⟨rfl, rfl, rfl, rfl, rfl, rfl⟩ := H
        go_enter Tryd.func72, Tryd.ntmps72
        try go_wp2_with (first | ((with_reducible refine gate_dst (N := 2) rfl ?_); refine box_event rfl (N := 2) rfl (cs := #[.int .i64 0, .int .i64 0, .float .f64 0, .string (⟨#[]⟩ : ByteArray)]) (t := 50) gs ?_; intro gb477 hg w6 hbox hb; have BK477 := am (hbox); have GW477 := gw hg HB; have GE477 := gw hg HB; replace HB := sb HB hb; clear hb hbox hg))
        have n0_ := am (blk_drew BK477.out)
        have n1_ := am (below_drew1 HB.out)
        clear BK477
        clear HB
        have BK477 := n0_
        have HB := n1_
        clear n0_ n1_
        have p3 : 0 ≤ (0 : Int) := (by omega)
        have q3 : 0 < a0.size := (by have : (0 : Int) < (a0.size : Int) := oda; omega)
        have hx3 : ∀ h : 0 < a0.size, ((a0[0]'h).toNat : Int) = bt a0 0 := bt_at a0 0
        clear p3
        have qi3 : (0 < (a0.size : Int)) = True := eq_true (oda)
        replace q3 := eq_true q3
        refine start_ (n := 6) (S := fun w' => True) (ds := []) (bb 0 6) (by kernel_rfl) rfl rfl trivial (fun hHeld => ?_)
        generalize w6.drew = w7 at BK477 HB hHeld ⊢
        refine pure_ (i := 0) (N := some 13) (v := ?_) (a' := ?_) (bb 1 6) rfl rfl (by kernel_rfl) (fun _ _ _ h => h) (Or.inl ⟨by rfl, ?_⟩) ?_ ?_
        rotate_left
        · intro w'
          go_simp
          with_reducible rfl
        rotate_left
        · simp only [Act.put, List.setIfInBounds_toArray, List.set_cons_zero, List.set_cons_succ, i64_w, i32_w]
          rfl
        refine pure_ (i := 2) (N := some 15) (v := ?_) (a' := ?_) (bs 6 5) rfl rfl (by kernel_rfl) (fun _ _ _ h => h) (Or.inl ⟨by rfl, ?_⟩) ?_ ?_
        rotate_left
        · intro w'
          go_simp
          with_reducible rfl
        rotate_left
        · simp only [Act.put, List.setIfInBounds_toArray, List.set_cons_zero, List.set_cons_succ, i64_w, i32_w]
          rfl
        refine pure_ (i := 3) (N := some 16) (v := ?_) (a' := ?_) (bs 6 13) rfl rfl (by kernel_rfl) (fun _ _ _ h => h) (Or.inl ⟨by rfl, ?_⟩) ?_ ?_
        rotate_left
        · intro w'
          go_simp
          with_reducible rfl
        rotate_left
        · simp only [Act.put, List.setIfInBounds_toArray, List.set_cons_zero, List.set_cons_succ, i64_w, i32_w]
          rfl
        refine take_ (i := 1) (N := some 14) (v := ?_) (a' := ?_) (bb 4 6) rfl rfl (by kernel_rfl) (fun _ _ _ h => h) (Or.inl ⟨by rfl, ?_⟩) hHeld ?_ ?_
        rotate_left
        · intro w' _
          go_simp
          with_reducible rfl
        rotate_left
        · simp only [Act.put, List.setIfInBounds_toArray, List.set_cons_zero, List.set_cons_succ, i64_w, i32_w]
          rfl
        refine pure_ (i := 4) (N := some 5) (v := ?_) (a' := ?_) (bb 5 6) rfl rfl (by kernel_rfl) (fun _ _ _ h => h) (Or.inl ⟨by rfl, ?_⟩) ?_ ?_
        rotate_left
        · intro w'
          go_simp
          with_reducible rfl
        rotate_left
        · simp only [Act.put, List.setIfInBounds_toArray, List.set_cons_zero, List.set_cons_succ, i64_w, i32_w]
          rfl
        refine pure_ (i := 5) (N := some 0) (v := ?_) (a' := ?_) (bb 6 6) rfl rfl (by kernel_rfl) (fun _ _ _ h => h) (Or.inl ⟨by rfl, ?_⟩) ?_ ?_
        rotate_left
        · intro w'
          go_simp
          with_reducible rfl
        rotate_left
        · simp only [Act.put, List.setIfInBounds_toArray, List.set_cons_zero, List.set_cons_succ, i64_w, i32_w]
          rfl
        refine done_ (by kernel_rfl) ?_
        obtain ⟨Z8_0, Z8_1, Z8_2, Z8_3, Y8_0, Y8_1, Y8_2, Y8_3⟩ := bq4 BK477
        try go_wp2
        refine bodyPost_ret (results_ctt rfl _ _ gb477 50 #[.int .i64 0, .int .i64 0, .float .f64 0, .string (⟨#[]⟩ : ByteArray)] (0, 0) _ rfl (by refine rp ?_; refine blk_put (cs := #[.int .i64 0, .int .i64 0, .float .f64 0, .string (⟨#[]⟩ : ByteArray)]) ?_ 3 _ rfl; refine rp ?_; refine blk_put (cs := #[.int .i64 0, .int .i64 0, .float .f64 0, .string (⟨#[]⟩ : ByteArray)]) ?_ 2 _ rfl; refine rp ?_; refine blk_put (cs := #[.int .i64 0, .int .i64 0, .float .f64 0, .string (⟨#[]⟩ : ByteArray)]) ?_ 1 _ rfl; refine rp ?_; refine blk_put (cs := #[.int .i64 0, .int .i64 0, .float .f64 0, .string (⟨#[]⟩ : ByteArray)]) ?_ 0 _ rfl; exact bk BK477) Tryd.underlying50 rfl (by kernel_rfl)) rfl ?_
        exact ⟨er, bl HB⟩
      · rw [if_neg c5] at H
        have c5b0 : ((bt a0 0) == 1) = false := beq_eq_false_iff_ne.mpr c5
        have c5b1 : ((bt a0 0) != 1) = true := bne_iff_ne.mpr c5
        by_cases c9 : (bt a0 0) = 2
        · rw [if_pos c9] at H
          have c9b0 : ((bt a0 0) == 2) = true := beq_iff_eq.mpr c9
          have c9b1 : ((bt a0 0) != 2) = false := bne_eq_false_iff_eq.mpr c9
          clear c9
          replace H := Option.bind_eq_some_iff.mp H
          obtain ⟨⟨t478, t479, t480⟩, A100, H⟩ := H
          replace H : (if t480 = true then (if 0 < (t478.size : Int) then (if (bt t478 0) > 1 then (some (0, 0, 0, (⟨#[]⟩ : ByteArray), (⟨#[]⟩ : ByteArray), false)) else (some (1, wrap64 (bt t478 0), 0, (⟨#[]⟩ : ByteArray), t479, true))) else (none)) else (some (0, 0, 0, (⟨#[]⟩ : ByteArray), (⟨#[]⟩ : ByteArray), false))) = some (r1, r2, r3, r4, r5, r6) := H
          have A10 := am A100
          clear A100
          by_cases c11 : t480 = true
          · subst c11
            have H1 : (if 0 < (t478.size : Int) then (if (bt t478 0) > 1 then (some (0, 0, 0, (⟨#[]⟩ : ByteArray), (⟨#[]⟩ : ByteArray), false)) else (some (1, wrap64 (bt t478 0), 0, (⟨#[]⟩ : ByteArray), t479, true))) else (none)) = some (r1, r2, r3, r4, r5, r6) := by rw [if_pos rfl] at H; exact H
            clear H
            have H := H1
            clear H1
            by_cases c12 : 0 < (t478.size : Int)
            · rw [if_pos c12] at H
              have c12b0 : decide (0 < (t478.size : Int)) = true := decide_eq_true c12
              have c12b1 : decide (0 < t478.size) = true := decide_eq_true (by omega)
              clear c12
              by_cases c14 : (bt t478 0) > 1
              · rw [if_pos c14] at H
                have c14b0 : decide (1 < (bt t478 0)) = true := decide_eq_true c14
                clear c14
                simp only [Option.some.injEq, Prod.mk.injEq] at H
                obtain ⟨rfl, rfl, rfl, rfl, rfl, rfl⟩ := H
                go_enter Tryd.func72, Tryd.ntmps72
                try go_wp2_with (first | ((with_reducible refine gate_dst (N := 2) rfl ?_); refine box_event rfl (N := 2) rfl (cs := #[.int .i64 0, .int .i64 0, .float .f64 0, .string (⟨#[]⟩ : ByteArray)]) (t := 50) gs ?_; intro gb477 hg w15 hbox hb; have BK477 := am (hbox); have GW477 := gw hg HB; have GE477 := gw hg HB; replace HB := sb HB hb; clear hb hbox hg))
                have n0_ := am (blk_drew BK477.out)
                have n1_ := am (below_drew1 HB.out)
                clear BK477
                clear HB
                have BK477 := n0_
                have HB := n1_
                clear n0_ n1_
                have p3 : 0 ≤ (0 : Int) := (by omega)
                have q3 : 0 < a0.size := (by have : (0 : Int) < (a0.size : Int) := oda; omega)
                have hx3 : ∀ h : 0 < a0.size, ((a0[0]'h).toNat : Int) = bt a0 0 := bt_at a0 0
                clear p3
                have qi3 : (0 < (a0.size : Int)) = True := eq_true (oda)
                replace q3 := eq_true q3
                refine start_ (n := 6) (S := fun w' => True) (ds := []) (bb 0 6) (by kernel_rfl) rfl rfl trivial (fun hHeld => ?_)
                generalize w15.drew = w16 at BK477 HB hHeld ⊢
                refine pure_ (i := 0) (N := some 13) (v := ?_) (a' := ?_) (bb 1 6) rfl rfl (by kernel_rfl) (fun _ _ _ h => h) (Or.inl ⟨by rfl, ?_⟩) ?_ ?_
                rotate_left
                · intro w'
                  go_simp
                  with_reducible rfl
                rotate_left
                · simp only [Act.put, List.setIfInBounds_toArray, List.set_cons_zero, List.set_cons_succ, i64_w, i32_w]
                  rfl
                refine pure_ (i := 2) (N := some 15) (v := ?_) (a' := ?_) (bs 6 5) rfl rfl (by kernel_rfl) (fun _ _ _ h => h) (Or.inl ⟨by rfl, ?_⟩) ?_ ?_
                rotate_left
                · intro w'
                  go_simp
                  with_reducible rfl
                rotate_left
                · simp only [Act.put, List.setIfInBounds_toArray, List.set_cons_zero, List.set_cons_succ, i64_w, i32_w]
                  rfl
                refine pure_ (i := 3) (N := some 16) (v := ?_) (a' := ?_) (bs 6 13) rfl rfl (by kernel_rfl) (fun _ _ _ h => h) (Or.inl ⟨by rfl, ?_⟩) ?_ ?_
                rotate_left
                · intro w'
                  go_simp
                  with_reducible rfl
                rotate_left
                · simp only [Act.put, List.setIfInBounds_toArray, List.set_cons_zero, List.set_cons_succ, i64_w, i32_w]
                  rfl
                refine take_ (i := 1) (N := some 14) (v := ?_) (a' := ?_) (bb 4 6) rfl rfl (by kernel_rfl) (fun _ _ _ h => h) (Or.inl ⟨by rfl, ?_⟩) hHeld ?_ ?_
                rotate_left
                · intro w' _
                  go_simp
                  with_reducible rfl
                rotate_left
                · simp only [Act.put, List.setIfInBounds_toArray, List.set_cons_zero, List.set_cons_succ, i64_w, i32_w]
                  rfl
                refine pure_ (i := 4) (N := some 5) (v := ?_) (a' := ?_) (bb 5 6) rfl rfl (by kernel_rfl) (fun _ _ _ h => h) (Or.inl ⟨by rfl, ?_⟩) ?_ ?_
                rotate_left
                · intro w'
                  go_simp
                  with_reducible rfl
                rotate_left
                · simp only [Act.put, List.setIfInBounds_toArray, List.set_cons_zero, List.set_cons_succ, i64_w, i32_w]
                  rfl
                refine pure_ (i := 5) (N := some 0) (v := ?_) (a' := ?_) (bb 6 6) rfl rfl (by kernel_rfl) (fun _ _ _ h => h) (Or.inl ⟨by rfl, ?_⟩) ?_ ?_
                rotate_left
                · intro w'
                  go_simp
                  with_reducible rfl
                rotate_left
                · simp only [Act.put, List.setIfInBounds_toArray, List.set_cons_zero, List.set_cons_succ, i64_w, i32_w]
                  rfl
                refine done_ (by kernel_rfl) ?_
                try go_wp2_with (first | ((with_reducible refine gate_callee (f := 110) rfl ?_); refine goesL_ (some 26) rfl rfl Tryd.func110 (by kernel_rfl) rfl #[.string (a0.extract 1 a0.size), .int .i64 1] rfl ar ?_; (with_reducible refine (code_take.calls (a0.extract 1 a0.size) 1 t478 t479 true _ A10.out).mono ?_); rintro e w' ⟨rfl, ⟨nd, rfl⟩⟩; refine ⟨_, rfl, ?_⟩; (try (rw [drewN_self w16]; generalize hq_ : World.drewN w16 _ = w16; have n0_ : Aside0 (w16.heap[gb477]? = some (.cells #[.int .i64 0, .int .i64 0, .float .f64 0, .string (⟨#[]⟩ : ByteArray)] 50 (0, 0))) := ⟨by rw [← hq_]; exact (bk BK477)⟩; have n1_ : Aside0 (Below w.heap.size w w16) := ⟨by rw [← hq_]; exact (bl HB)⟩; clear BK477 HB hq_; have BK477 := n0_; have HB := n1_; clear n0_ n1_)); (try have Zuz17 : w16.cell? ⟨gb477, 0, none⟩ = some (.int .i64 0) := (blk_cell BK477.out 0).trans rfl); (try have Yuz17 := blk_frozen BK477.out 0); (try have Zuz18 : w16.cell? ⟨gb477, 1, none⟩ = some (.int .i64 0) := (blk_cell BK477.out 1).trans rfl); (try have Yuz18 := blk_frozen BK477.out 1); (try have Zuz19 : w16.cell? ⟨gb477, 2, none⟩ = some (.float .f64 0) := (blk_cell BK477.out 2).trans rfl); (try have Yuz19 := blk_frozen BK477.out 2); (try have Zuz20 : w16.cell? ⟨gb477, 3, none⟩ = some (.string (⟨#[]⟩ : ByteArray)) := (blk_cell BK477.out 3).trans rfl); (try have Yuz20 := blk_frozen BK477.out 3); have p13 : 0 ≤ (0 : Int) := (by omega); have q13 : 0 < t478.size := (by have : (0 : Int) < (t478.size : Int) := oda; omega); have hx13 : ∀ h : 0 < t478.size, ((t478[0]'h).toNat : Int) = bt t478 0 := bt_at t478 0; clear p13; have qi13 : (0 < (t478.size : Int)) = True := eq_true (oda); replace q13 := eq_true q13; obtain ⟨Z21_0, Z21_1, Z21_2, Z21_3, Y21_0, Y21_1, Y21_2, Y21_3⟩ := bq4 BK477))
                refine bodyPost_ret (results_ctt rfl _ _ gb477 50 #[.int .i64 0, .int .i64 0, .float .f64 0, .string (⟨#[]⟩ : ByteArray)] (0, 0) _ rfl (by refine rp ?_; refine blk_put (cs := #[.int .i64 0, .int .i64 0, .float .f64 0, .string (⟨#[]⟩ : ByteArray)]) ?_ 3 _ rfl; refine rp ?_; refine blk_put (cs := #[.int .i64 0, .int .i64 0, .float .f64 0, .string (⟨#[]⟩ : ByteArray)]) ?_ 2 _ rfl; refine rp ?_; refine blk_put (cs := #[.int .i64 0, .int .i64 0, .float .f64 0, .string (⟨#[]⟩ : ByteArray)]) ?_ 1 _ rfl; refine rp ?_; refine blk_put (cs := #[.int .i64 0, .int .i64 0, .float .f64 0, .string (⟨#[]⟩ : ByteArray)]) ?_ 0 _ rfl; exact bk BK477) Tryd.underlying50 rfl (by kernel_rfl)) rfl ?_
                exact ⟨er, bl HB⟩
              · rw [if_neg c14] at H
                have c14b0 : decide (1 < (bt t478 0)) = false := decide_eq_false c14
                clear c14
                simp only [Option.some.injEq, Prod.mk.injEq] at H
                obtain ⟨rfl, rfl, rfl, rfl, rfl, rfl⟩ := H
                go_enter Tryd.func72, Tryd.ntmps72
                try go_wp2_with (first | ((with_reducible refine gate_dst (N := 2) rfl ?_); refine box_event rfl (N := 2) rfl (cs := #[.int .i64 0, .int .i64 0, .float .f64 0, .string (⟨#[]⟩ : ByteArray)]) (t := 50) gs ?_; intro gb477 hg w23 hbox hb; have BK477 := am (hbox); have GW477 := gw hg HB; have GE477 := gw hg HB; replace HB := sb HB hb; clear hb hbox hg))
                have n0_ := am (blk_drew BK477.out)
                have n1_ := am (below_drew1 HB.out)
                clear BK477
                clear HB
                have BK477 := n0_
                have HB := n1_
                clear n0_ n1_
                have p3 : 0 ≤ (0 : Int) := (by omega)
                have q3 : 0 < a0.size := (by have : (0 : Int) < (a0.size : Int) := oda; omega)
                have hx3 : ∀ h : 0 < a0.size, ((a0[0]'h).toNat : Int) = bt a0 0 := bt_at a0 0
                clear p3
                have qi3 : (0 < (a0.size : Int)) = True := eq_true (oda)
                replace q3 := eq_true q3
                refine start_ (n := 6) (S := fun w' => True) (ds := []) (bb 0 6) (by kernel_rfl) rfl rfl trivial (fun hHeld => ?_)
                generalize w23.drew = w24 at BK477 HB hHeld ⊢
                refine pure_ (i := 0) (N := some 13) (v := ?_) (a' := ?_) (bb 1 6) rfl rfl (by kernel_rfl) (fun _ _ _ h => h) (Or.inl ⟨by rfl, ?_⟩) ?_ ?_
                rotate_left
                · intro w'
                  go_simp
                  with_reducible rfl
                rotate_left
                · simp only [Act.put, List.setIfInBounds_toArray, List.set_cons_zero, List.set_cons_succ, i64_w, i32_w]
                  rfl
                refine pure_ (i := 2) (N := some 15) (v := ?_) (a' := ?_) (bs 6 5) rfl rfl (by kernel_rfl) (fun _ _ _ h => h) (Or.inl ⟨by rfl, ?_⟩) ?_ ?_
                rotate_left
                · intro w'
                  go_simp
                  with_reducible rfl
                rotate_left
                · simp only [Act.put, List.setIfInBounds_toArray, List.set_cons_zero, List.set_cons_succ, i64_w, i32_w]
                  rfl
                refine pure_ (i := 3) (N := some 16) (v := ?_) (a' := ?_) (bs 6 13) rfl rfl (by kernel_rfl) (fun _ _ _ h => h) (Or.inl ⟨by rfl, ?_⟩) ?_ ?_
                rotate_left
                · intro w'
                  go_simp
                  with_reducible rfl
                rotate_left
                · simp only [Act.put, List.setIfInBounds_toArray, List.set_cons_zero, List.set_cons_succ, i64_w, i32_w]
                  rfl
                refine take_ (i := 1) (N := some 14) (v := ?_) (a' := ?_) (bb 4 6) rfl rfl (by kernel_rfl) (fun _ _ _ h => h) (Or.inl ⟨by rfl, ?_⟩) hHeld ?_ ?_
                rotate_left
                · intro w' _
                  go_simp
                  with_reducible rfl
                rotate_left
                · simp only [Act.put, List.setIfInBounds_toArray, List.set_cons_zero, List.set_cons_succ, i64_w, i32_w]
                  rfl
                refine pure_ (i := 4) (N := some 5) (v := ?_) (a' := ?_) (bb 5 6) rfl rfl (by kernel_rfl) (fun _ _ _ h => h) (Or.inl ⟨by rfl, ?_⟩) ?_ ?_
                rotate_left
                · intro w'
                  go_simp
                  with_reducible rfl
                rotate_left
                · simp only [Act.put, List.setIfInBounds_toArray, List.set_cons_zero, List.set_cons_succ, i64_w, i32_w]
                  rfl
                refine pure_ (i := 5) (N := some 0) (v := ?_) (a' := ?_) (bb 6 6) rfl rfl (by kernel_rfl) (fun _ _ _ h => h) (Or.inl ⟨by rfl, ?_⟩) ?_ ?_
                rotate_left
                · intro w'
                  go_simp
                  with_reducible rfl
                rotate_left
                · simp only [Act.put, List.setIfInBounds_toArray, List.set_cons_zero, List.set_cons_succ, i64_w, i32_w]
                  rfl
                refine done_ (by kernel_rfl) ?_
                try go_wp2_with (first | ((with_reducible refine gate_callee (f := 110) rfl ?_); refine goesL_ (some 26) rfl rfl Tryd.func110 (by kernel_rfl) rfl #[.string (a0.extract 1 a0.size), .int .i64 1] rfl ar ?_; (with_reducible refine (code_take.calls (a0.extract 1 a0.size) 1 t478 t479 true _ A10.out).mono ?_); rintro e w' ⟨rfl, ⟨nd, rfl⟩⟩; refine ⟨_, rfl, ?_⟩; (try (rw [drewN_self w24]; generalize hq_ : World.drewN w24 _ = w24; have n0_ : Aside0 (w24.heap[gb477]? = some (.cells #[.int .i64 0, .int .i64 0, .float .f64 0, .string (⟨#[]⟩ : ByteArray)] 50 (0, 0))) := ⟨by rw [← hq_]; exact (bk BK477)⟩; have n1_ : Aside0 (Below w.heap.size w w24) := ⟨by rw [← hq_]; exact (bl HB)⟩; clear BK477 HB hq_; have BK477 := n0_; have HB := n1_; clear n0_ n1_)); (try have Zuz25 : w24.cell? ⟨gb477, 0, none⟩ = some (.int .i64 0) := (blk_cell BK477.out 0).trans rfl); (try have Yuz25 := blk_frozen BK477.out 0); (try have Zuz26 : w24.cell? ⟨gb477, 1, none⟩ = some (.int .i64 0) := (blk_cell BK477.out 1).trans rfl); (try have Yuz26 := blk_frozen BK477.out 1); (try have Zuz27 : w24.cell? ⟨gb477, 2, none⟩ = some (.float .f64 0) := (blk_cell BK477.out 2).trans rfl); (try have Yuz27 := blk_frozen BK477.out 2); (try have Zuz28 : w24.cell? ⟨gb477, 3, none⟩ = some (.string (⟨#[]⟩ : ByteArray)) := (blk_cell BK477.out 3).trans rfl); (try have Yuz28 := blk_frozen BK477.out 3); have p13 : 0 ≤ (0 : Int) := (by omega); have q13 : 0 < t478.size := (by have : (0 : Int) < (t478.size : Int) := oda; omega); have hx13 : ∀ h : 0 < t478.size, ((t478[0]'h).toNat : Int) = bt t478 0 := bt_at t478 0; clear p13; have qi13 : (0 < (t478.size : Int)) = True := eq_true (oda); replace q13 := eq_true q13; have p22 : 0 ≤ (0 : Int) := (by omega); have q22 : 0 < t478.size := (by have : (0 : Int) < (t478.size : Int) := oda; omega); have hx22 : ∀ h : 0 < t478.size, ((t478[0]'h).toNat : Int) = bt t478 0 := bt_at t478 0; clear p22; have qi22 : (0 < (t478.size : Int)) = True := eq_true (oda); replace q22 := eq_true q22; obtain ⟨Z29_0, Z29_1, Z29_2, Z29_3, Y29_0, Y29_1, Y29_2, Y29_3⟩ := bq4 BK477))
                refine bodyPost_ret (results_ctt rfl _ _ gb477 50 #[.int .i64 1, .int .i64 (wrap64 (bt t478 0)), .float .f64 0, .string (⟨#[]⟩ : ByteArray)] (0, 0) _ rfl (by refine rp ?_; refine blk_put (cs := #[.int .i64 1, .int .i64 (wrap64 (bt t478 0)), .float .f64 0, .string (⟨#[]⟩ : ByteArray)]) ?_ 3 _ rfl; refine rp ?_; refine blk_put (cs := #[.int .i64 1, .int .i64 (wrap64 (bt t478 0)), .float .f64 0, .string (⟨#[]⟩ : ByteArray)]) ?_ 2 _ rfl; refine rp ?_; refine blk_put (cs := #[.int .i64 1, .int .i64 0, .float .f64 0, .string (⟨#[]⟩ : ByteArray)]) ?_ 1 _ rfl; refine rp ?_; refine blk_put (cs := #[.int .i64 0, .int .i64 0, .float .f64 0, .string (⟨#[]⟩ : ByteArray)]) ?_ 0 _ rfl; exact bk BK477) Tryd.underlying50 rfl (by kernel_rfl)) rfl ?_
                exact ⟨er, bl HB⟩
            · rw [if_neg c12] at H
              exact absurd H (by simp)
          · replace c11 := Bool.eq_false_iff.mpr c11
            subst c11
            have H1 : (some (0, 0, 0, (⟨#[]⟩ : ByteArray), (⟨#[]⟩ : ByteArray), false)) = some (r1, r2, r3, r4, r5, r6) := by rw [if_neg (show ¬ (false = true) by decide)] at H; exact H
            clear H
            have H := H1
            clear H1
            simp only [Option.some.injEq, Prod.mk.injEq] at H
            obtain ⟨rfl, rfl, rfl, rfl, rfl, rfl⟩ := H
            go_enter Tryd.func72, Tryd.ntmps72
            try go_wp2_with (first | ((with_reducible refine gate_dst (N := 2) rfl ?_); refine box_event rfl (N := 2) rfl (cs := #[.int .i64 0, .int .i64 0, .float .f64 0, .string (⟨#[]⟩ : ByteArray)]) (t := 50) gs ?_; intro gb477 hg w30 hbox hb; have BK477 := am (hbox); have GW477 := gw hg HB; have GE477 := gw hg HB; replace HB := sb HB hb; clear hb hbox hg))
            have n0_ := am (blk_drew BK477.out)
            have n1_ := am (below_drew1 HB.out)
            clear BK477
            clear HB
            have BK477 := n0_
            have HB := n1_
            clear n0_ n1_
            have p3 : 0 ≤ (0 : Int) := (by omega)
            have q3 : 0 < a0.size := (by have : (0 : Int) < (a0.size : Int) := oda; omega)
            have hx3 : ∀ h : 0 < a0.size, ((a0[0]'h).toNat : Int) = bt a0 0 := bt_at a0 0
            clear p3
            have qi3 : (0 < (a0.size : Int)) = True := eq_true (oda)
            replace q3 := eq_true q3
            refine start_ (n := 6) (S := fun w' => True) (ds := []) (bb 0 6) (by kernel_rfl) rfl rfl trivial (fun hHeld => ?_)
            generalize w30.drew = w31 at BK477 HB hHeld ⊢
            refine pure_ (i := 0) (N := some 13) (v := ?_) (a' := ?_) (bb 1 6) rfl rfl (by kernel_rfl) (fun _ _ _ h => h) (Or.inl ⟨by rfl, ?_⟩) ?_ ?_
            rotate_left
            · intro w'
              go_simp
              with_reducible rfl
            rotate_left
            · simp only [Act.put, List.setIfInBounds_toArray, List.set_cons_zero, List.set_cons_succ, i64_w, i32_w]
              rfl
            refine pure_ (i := 2) (N := some 15) (v := ?_) (a' := ?_) (bs 6 5) rfl rfl (by kernel_rfl) (fun _ _ _ h => h) (Or.inl ⟨by rfl, ?_⟩) ?_ ?_
            rotate_left
            · intro w'
              go_simp
              with_reducible rfl
            rotate_left
            · simp only [Act.put, List.setIfInBounds_toArray, List.set_cons_zero, List.set_cons_succ, i64_w, i32_w]
              rfl
            refine pure_ (i := 3) (N := some 16) (v := ?_) (a' := ?_) (bs 6 13) rfl rfl (by kernel_rfl) (fun _ _ _ h => h) (Or.inl ⟨by rfl, ?_⟩) ?_ ?_
            rotate_left
            · intro w'
              go_simp
              with_reducible rfl
            rotate_left
            · simp only [Act.put, List.setIfInBounds_toArray, List.set_cons_zero, List.set_cons_succ, i64_w, i32_w]
              rfl
            refine take_ (i := 1) (N := some 14) (v := ?_) (a' := ?_) (bb 4 6) rfl rfl (by kernel_rfl) (fun _ _ _ h => h) (Or.inl ⟨by rfl, ?_⟩) hHeld ?_ ?_
            rotate_left
            · intro w' _
              go_simp
              with_reducible rfl
            rotate_left
            · simp only [Act.put, List.setIfInBounds_toArray, List.set_cons_zero, List.set_cons_succ, i64_w, i32_w]
              rfl
            refine pure_ (i := 4) (N := some 5) (v := ?_) (a' := ?_) (bb 5 6) rfl rfl (by kernel_rfl) (fun _ _ _ h => h) (Or.inl ⟨by rfl, ?_⟩) ?_ ?_
            rotate_left
            · intro w'
              go_simp
              with_reducible rfl
            rotate_left
            · simp only [Act.put, List.setIfInBounds_toArray, List.set_cons_zero, List.set_cons_succ, i64_w, i32_w]
              rfl
            refine pure_ (i := 5) (N := some 0) (v := ?_) (a' := ?_) (bb 6 6) rfl rfl (by kernel_rfl) (fun _ _ _ h => h) (Or.inl ⟨by rfl, ?_⟩) ?_ ?_
            rotate_left
            · intro w'
              go_simp
              with_reducible rfl
            rotate_left
            · simp only [Act.put, List.setIfInBounds_toArray, List.set_cons_zero, List.set_cons_succ, i64_w, i32_w]
              rfl
            refine done_ (by kernel_rfl) ?_
            try go_wp2_with (first | ((with_reducible refine gate_callee (f := 110) rfl ?_); refine goesL_ (some 26) rfl rfl Tryd.func110 (by kernel_rfl) rfl #[.string (a0.extract 1 a0.size), .int .i64 1] rfl ar ?_; (with_reducible refine (code_take.calls (a0.extract 1 a0.size) 1 t478 t479 false _ A10.out).mono ?_); rintro e w' ⟨rfl, ⟨nd, rfl⟩⟩; refine ⟨_, rfl, ?_⟩; (try (rw [drewN_self w31]; generalize hq_ : World.drewN w31 _ = w31; have n0_ : Aside0 (w31.heap[gb477]? = some (.cells #[.int .i64 0, .int .i64 0, .float .f64 0, .string (⟨#[]⟩ : ByteArray)] 50 (0, 0))) := ⟨by rw [← hq_]; exact (bk BK477)⟩; have n1_ : Aside0 (Below w.heap.size w w31) := ⟨by rw [← hq_]; exact (bl HB)⟩; clear BK477 HB hq_; have BK477 := n0_; have HB := n1_; clear n0_ n1_)); (try have Zuz32 : w31.cell? ⟨gb477, 0, none⟩ = some (.int .i64 0) := (blk_cell BK477.out 0).trans rfl); (try have Yuz32 := blk_frozen BK477.out 0); (try have Zuz33 : w31.cell? ⟨gb477, 1, none⟩ = some (.int .i64 0) := (blk_cell BK477.out 1).trans rfl); (try have Yuz33 := blk_frozen BK477.out 1); (try have Zuz34 : w31.cell? ⟨gb477, 2, none⟩ = some (.float .f64 0) := (blk_cell BK477.out 2).trans rfl); (try have Yuz34 := blk_frozen BK477.out 2); (try have Zuz35 : w31.cell? ⟨gb477, 3, none⟩ = some (.string (⟨#[]⟩ : ByteArray)) := (blk_cell BK477.out 3).trans rfl); (try have Yuz35 := blk_frozen BK477.out 3); obtain ⟨Z36_0, Z36_1, Z36_2, Z36_3, Y36_0, Y36_1, Y36_2, Y36_3⟩ := bq4 BK477))
            refine bodyPost_ret (results_ctt rfl _ _ gb477 50 #[.int .i64 0, .int .i64 0, .float .f64 0, .string (⟨#[]⟩ : ByteArray)] (0, 0) _ rfl (by refine rp ?_; refine blk_put (cs := #[.int .i64 0, .int .i64 0, .float .f64 0, .string (⟨#[]⟩ : ByteArray)]) ?_ 3 _ rfl; refine rp ?_; refine blk_put (cs := #[.int .i64 0, .int .i64 0, .float .f64 0, .string (⟨#[]⟩ : ByteArray)]) ?_ 2 _ rfl; refine rp ?_; refine blk_put (cs := #[.int .i64 0, .int .i64 0, .float .f64 0, .string (⟨#[]⟩ : ByteArray)]) ?_ 1 _ rfl; refine rp ?_; refine blk_put (cs := #[.int .i64 0, .int .i64 0, .float .f64 0, .string (⟨#[]⟩ : ByteArray)]) ?_ 0 _ rfl; exact bk BK477) Tryd.underlying50 rfl (by kernel_rfl)) rfl ?_
            exact ⟨er, bl HB⟩
        · rw [if_neg c9] at H
          have c9b0 : ((bt a0 0) == 2) = false := beq_eq_false_iff_ne.mpr c9
          have c9b1 : ((bt a0 0) != 2) = true := bne_iff_ne.mpr c9
          by_cases c37 : (bt a0 0) = 3
          · rw [if_pos c37] at H
            have c37b0 : ((bt a0 0) == 3) = true := beq_iff_eq.mpr c37
            have c37b1 : ((bt a0 0) != 3) = false := bne_eq_false_iff_eq.mpr c37
            clear c37
            replace H := Option.bind_eq_some_iff.mp H
            obtain ⟨⟨t481, t482, t483, t484, t485, t486⟩, A380, H⟩ := H
            replace H : (some (t481, t482, t483, t484, t485, t486)) = some (r1, r2, r3, r4, r5, r6) := H
            have A38 := am A380
            clear A380
            simp only [Option.some.injEq, Prod.mk.injEq] at H
            obtain ⟨rfl, rfl, rfl, rfl, rfl, rfl⟩ := H
            go_enter Tryd.func72, Tryd.ntmps72
            try go_wp2_with (first | ((with_reducible refine gate_dst (N := 2) rfl ?_); refine box_event rfl (N := 2) rfl (cs := #[.int .i64 0, .int .i64 0, .float .f64 0, .string (⟨#[]⟩ : ByteArray)]) (t := 50) gs ?_; intro gb477 hg w39 hbox hb; have BK477 := am (hbox); have GW477 := gw hg HB; have GE477 := gw hg HB; replace HB := sb HB hb; clear hb hbox hg))
            have n0_ := am (blk_drew BK477.out)
            have n1_ := am (below_drew1 HB.out)
            clear BK477
            clear HB
            have BK477 := n0_
            have HB := n1_
            clear n0_ n1_
            have p3 : 0 ≤ (0 : Int) := (by omega)
            have q3 : 0 < a0.size := (by have : (0 : Int) < (a0.size : Int) := oda; omega)
            have hx3 : ∀ h : 0 < a0.size, ((a0[0]'h).toNat : Int) = bt a0 0 := bt_at a0 0
            clear p3
            have qi3 : (0 < (a0.size : Int)) = True := eq_true (oda)
            replace q3 := eq_true q3
            refine start_ (n := 6) (S := fun w' => True) (ds := []) (bb 0 6) (by kernel_rfl) rfl rfl trivial (fun hHeld => ?_)
            generalize w39.drew = w40 at BK477 HB hHeld ⊢
            refine pure_ (i := 0) (N := some 13) (v := ?_) (a' := ?_) (bb 1 6) rfl rfl (by kernel_rfl) (fun _ _ _ h => h) (Or.inl ⟨by rfl, ?_⟩) ?_ ?_
            rotate_left
            · intro w'
              go_simp
              with_reducible rfl
            rotate_left
            · simp only [Act.put, List.setIfInBounds_toArray, List.set_cons_zero, List.set_cons_succ, i64_w, i32_w]
              rfl
            refine pure_ (i := 2) (N := some 15) (v := ?_) (a' := ?_) (bs 6 5) rfl rfl (by kernel_rfl) (fun _ _ _ h => h) (Or.inl ⟨by rfl, ?_⟩) ?_ ?_
            rotate_left
            · intro w'
              go_simp
              with_reducible rfl
            rotate_left
            · simp only [Act.put, List.setIfInBounds_toArray, List.set_cons_zero, List.set_cons_succ, i64_w, i32_w]
              rfl
            refine pure_ (i := 3) (N := some 16) (v := ?_) (a' := ?_) (bs 6 13) rfl rfl (by kernel_rfl) (fun _ _ _ h => h) (Or.inl ⟨by rfl, ?_⟩) ?_ ?_
            rotate_left
            · intro w'
              go_simp
              with_reducible rfl
            rotate_left
            · simp only [Act.put, List.setIfInBounds_toArray, List.set_cons_zero, List.set_cons_succ, i64_w, i32_w]
              rfl
            refine take_ (i := 1) (N := some 14) (v := ?_) (a' := ?_) (bb 4 6) rfl rfl (by kernel_rfl) (fun _ _ _ h => h) (Or.inl ⟨by rfl, ?_⟩) hHeld ?_ ?_
            rotate_left
            · intro w' _
              go_simp
              with_reducible rfl
            rotate_left
            · simp only [Act.put, List.setIfInBounds_toArray, List.set_cons_zero, List.set_cons_succ, i64_w, i32_w]
              rfl
            refine pure_ (i := 4) (N := some 5) (v := ?_) (a' := ?_) (bb 5 6) rfl rfl (by kernel_rfl) (fun _ _ _ h => h) (Or.inl ⟨by rfl, ?_⟩) ?_ ?_
            rotate_left
            · intro w'
              go_simp
              with_reducible rfl
            rotate_left
            · simp only [Act.put, List.setIfInBounds_toArray, List.set_cons_zero, List.set_cons_succ, i64_w, i32_w]
              rfl
            refine pure_ (i := 5) (N := some 0) (v := ?_) (a' := ?_) (bb 6 6) rfl rfl (by kernel_rfl) (fun _ _ _ h => h) (Or.inl ⟨by rfl, ?_⟩) ?_ ?_
            rotate_left
            · intro w'
              go_simp
              with_reducible rfl
            rotate_left
            · simp only [Act.put, List.setIfInBounds_toArray, List.set_cons_zero, List.set_cons_succ, i64_w, i32_w]
              rfl
            refine done_ (by kernel_rfl) ?_
            try go_wp2_with (first | ((with_reducible refine gate_callee (f := 111) rfl ?_); refine goesL_ (some 46) rfl rfl Tryd.func111 (by kernel_rfl) rfl #[.string (a0.extract 1 a0.size)] rfl ar ?_; (with_reducible refine (code_getInt.calls k (a0.extract 1 a0.size) t481 t482 t483 t484 t485 t486 _ A38.out).mono ?_); rintro e w41 ⟨rfl, hb⟩; refine ⟨_, rfl, ?_⟩; replace BK477 := kb BK477 hb; replace HB := sb HB hb; (try clear hb); (try clear hb2 hk hi); obtain ⟨Z42_0, Z42_1, Z42_2, Z42_3, Y42_0, Y42_1, Y42_2, Y42_3⟩ := bq4 BK477))
            refine bodyPost_ret (results_ctt rfl _ _ gb477 50 #[.int .i64 t481, .int .i64 t482, .float .f64 t483, .string t484] (0, 0) _ rfl (by refine rp ?_; refine blk_put (cs := #[.int .i64 t481, .int .i64 t482, .float .f64 t483, .string (⟨#[]⟩ : ByteArray)]) ?_ 3 _ rfl; refine rp ?_; refine blk_put (cs := #[.int .i64 t481, .int .i64 t482, .float .f64 0, .string (⟨#[]⟩ : ByteArray)]) ?_ 2 _ rfl; refine rp ?_; refine blk_put (cs := #[.int .i64 t481, .int .i64 0, .float .f64 0, .string (⟨#[]⟩ : ByteArray)]) ?_ 1 _ rfl; refine rp ?_; refine blk_put (cs := #[.int .i64 0, .int .i64 0, .float .f64 0, .string (⟨#[]⟩ : ByteArray)]) ?_ 0 _ rfl; exact bk BK477) Tryd.underlying50 rfl (by kernel_rfl)) rfl ?_
            exact ⟨er, bl HB⟩
          · rw [if_neg c37] at H
            have c37b0 : ((bt a0 0) == 3) = false := beq_eq_false_iff_ne.mpr c37
            have c37b1 : ((bt a0 0) != 3) = true := bne_iff_ne.mpr c37
            by_cases c43 : (bt a0 0) = 4
            · rw [if_pos c43] at H
              have c43b0 : ((bt a0 0) == 4) = true := beq_iff_eq.mpr c43
              have c43b1 : ((bt a0 0) != 4) = false := bne_eq_false_iff_eq.mpr c43
              clear c43
              replace H := Option.bind_eq_some_iff.mp H
              obtain ⟨⟨t487, t488, t489, t490, t491, t492⟩, A440, H⟩ := H
              replace H : (some (t487, t488, t489, t490, t491, t492)) = some (r1, r2, r3, r4, r5, r6) := H
              have A44 := am A440
              clear A440
              simp only [Option.some.injEq, Prod.mk.injEq] at H
              obtain ⟨rfl, rfl, rfl, rfl, rfl, rfl⟩ := H
              go_enter Tryd.func72, Tryd.ntmps72
              try go_wp2_with (first | ((with_reducible refine gate_dst (N := 2) rfl ?_); refine box_event rfl (N := 2) rfl (cs := #[.int .i64 0, .int .i64 0, .float .f64 0, .string (⟨#[]⟩ : ByteArray)]) (t := 50) gs ?_; intro gb477 hg w45 hbox hb; have BK477 := am (hbox); have GW477 := gw hg HB; have GE477 := gw hg HB; replace HB := sb HB hb; clear hb hbox hg))
              have n0_ := am (blk_drew BK477.out)
              have n1_ := am (below_drew1 HB.out)
              clear BK477
              clear HB
              have BK477 := n0_
              have HB := n1_
              clear n0_ n1_
              have p3 : 0 ≤ (0 : Int) := (by omega)
              have q3 : 0 < a0.size := (by have : (0 : Int) < (a0.size : Int) := oda; omega)
              have hx3 : ∀ h : 0 < a0.size, ((a0[0]'h).toNat : Int) = bt a0 0 := bt_at a0 0
              clear p3
              have qi3 : (0 < (a0.size : Int)) = True := eq_true (oda)
              replace q3 := eq_true q3
              refine start_ (n := 6) (S := fun w' => True) (ds := []) (bb 0 6) (by kernel_rfl) rfl rfl trivial (fun hHeld => ?_)
              generalize w45.drew = w46 at BK477 HB hHeld ⊢
              refine pure_ (i := 0) (N := some 13) (v := ?_) (a' := ?_) (bb 1 6) rfl rfl (by kernel_rfl) (fun _ _ _ h => h) (Or.inl ⟨by rfl, ?_⟩) ?_ ?_
              rotate_left
              · intro w'
                go_simp
                with_reducible rfl
              rotate_left
              · simp only [Act.put, List.setIfInBounds_toArray, List.set_cons_zero, List.set_cons_succ, i64_w, i32_w]
                rfl
              refine pure_ (i := 2) (N := some 15) (v := ?_) (a' := ?_) (bs 6 5) rfl rfl (by kernel_rfl) (fun _ _ _ h => h) (Or.inl ⟨by rfl, ?_⟩) ?_ ?_
              rotate_left
              · intro w'
                go_simp
                with_reducible rfl
              rotate_left
              · simp only [Act.put, List.setIfInBounds_toArray, List.set_cons_zero, List.set_cons_succ, i64_w, i32_w]
                rfl
              refine pure_ (i := 3) (N := some 16) (v := ?_) (a' := ?_) (bs 6 13) rfl rfl (by kernel_rfl) (fun _ _ _ h => h) (Or.inl ⟨by rfl, ?_⟩) ?_ ?_
              rotate_left
              · intro w'
                go_simp
                with_reducible rfl
              rotate_left
              · simp only [Act.put, List.setIfInBounds_toArray, List.set_cons_zero, List.set_cons_succ, i64_w, i32_w]
                rfl
              refine take_ (i := 1) (N := some 14) (v := ?_) (a' := ?_) (bb 4 6) rfl rfl (by kernel_rfl) (fun _ _ _ h => h) (Or.inl ⟨by rfl, ?_⟩) hHeld ?_ ?_
              rotate_left
              · intro w' _
                go_simp
                with_reducible rfl
              rotate_left
              · simp only [Act.put, List.setIfInBounds_toArray, List.set_cons_zero, List.set_cons_succ, i64_w, i32_w]
                rfl
              refine pure_ (i := 4) (N := some 5) (v := ?_) (a' := ?_) (bb 5 6) rfl rfl (by kernel_rfl) (fun _ _ _ h => h) (Or.inl ⟨by rfl, ?_⟩) ?_ ?_
              rotate_left
              · intro w'
                go_simp
                with_reducible rfl
              rotate_left
              · simp only [Act.put, List.setIfInBounds_toArray, List.set_cons_zero, List.set_cons_succ, i64_w, i32_w]
                rfl
              refine pure_ (i := 5) (N := some 0) (v := ?_) (a' := ?_) (bb 6 6) rfl rfl (by kernel_rfl) (fun _ _ _ h => h) (Or.inl ⟨by rfl, ?_⟩) ?_ ?_
              rotate_left
              · intro w'
                go_simp
                with_reducible rfl
              rotate_left
              · simp only [Act.put, List.setIfInBounds_toArray, List.set_cons_zero, List.set_cons_succ, i64_w, i32_w]
                rfl
              refine done_ (by kernel_rfl) ?_
              try go_wp2_with (first | ((with_reducible refine gate_callee (f := 112) rfl ?_); refine goesL_ (some 53) rfl rfl Tryd.func112 (by kernel_rfl) rfl #[.string (a0.extract 1 a0.size)] rfl ar ?_; (with_reducible refine (code_getFloat.calls k (a0.extract 1 a0.size) t487 t488 t489 t490 t491 t492 _ A44.out).mono ?_); rintro e w47 ⟨rfl, hb⟩; refine ⟨_, rfl, ?_⟩; replace BK477 := kb BK477 hb; replace HB := sb HB hb; (try clear hb); (try clear hb2 hk hi); obtain ⟨Z48_0, Z48_1, Z48_2, Z48_3, Y48_0, Y48_1, Y48_2, Y48_3⟩ := bq4 BK477))
              refine bodyPost_ret (results_ctt rfl _ _ gb477 50 #[.int .i64 t487, .int .i64 t488, .float .f64 t489, .string t490] (0, 0) _ rfl (by refine rp ?_; refine blk_put (cs := #[.int .i64 t487, .int .i64 t488, .float .f64 t489, .string (⟨#[]⟩ : ByteArray)]) ?_ 3 _ rfl; refine rp ?_; refine blk_put (cs := #[.int .i64 t487, .int .i64 t488, .float .f64 0, .string (⟨#[]⟩ : ByteArray)]) ?_ 2 _ rfl; refine rp ?_; refine blk_put (cs := #[.int .i64 t487, .int .i64 0, .float .f64 0, .string (⟨#[]⟩ : ByteArray)]) ?_ 1 _ rfl; refine rp ?_; refine blk_put (cs := #[.int .i64 0, .int .i64 0, .float .f64 0, .string (⟨#[]⟩ : ByteArray)]) ?_ 0 _ rfl; exact bk BK477) Tryd.underlying50 rfl (by kernel_rfl)) rfl ?_
              exact ⟨er, bl HB⟩
            · rw [if_neg c43] at H
              have c43b0 : ((bt a0 0) == 4) = false := beq_eq_false_iff_ne.mpr c43
              have c43b1 : ((bt a0 0) != 4) = true := bne_iff_ne.mpr c43
              have HC49 := am H
              clear H
              go_enter Tryd.func72, Tryd.ntmps72
              try go_wp2_with (first | ((with_reducible refine gate_dst (N := 2) rfl ?_); refine box_event rfl (N := 2) rfl (cs := #[.int .i64 0, .int .i64 0, .float .f64 0, .string (⟨#[]⟩ : ByteArray)]) (t := 50) gs ?_; intro gb477 hg w50 hbox hb; have BK477 := am (hbox); have GW477 := gw hg HB; have GE477 := gw hg HB; replace HB := sb HB hb; clear hb hbox hg))
              have n0_ := am (blk_drew BK477.out)
              have n1_ := am (below_drew1 HB.out)
              clear BK477
              clear HB
              have BK477 := n0_
              have HB := n1_
              clear n0_ n1_
              have p3 : 0 ≤ (0 : Int) := (by omega)
              have q3 : 0 < a0.size := (by have : (0 : Int) < (a0.size : Int) := oda; omega)
              have hx3 : ∀ h : 0 < a0.size, ((a0[0]'h).toNat : Int) = bt a0 0 := bt_at a0 0
              clear p3
              have qi3 : (0 < (a0.size : Int)) = True := eq_true (oda)
              replace q3 := eq_true q3
              refine start_ (n := 6) (S := fun w' => True) (ds := []) (bb 0 6) (by kernel_rfl) rfl rfl trivial (fun hHeld => ?_)
              generalize w50.drew = w51 at BK477 HB hHeld ⊢
              refine pure_ (i := 0) (N := some 13) (v := ?_) (a' := ?_) (bb 1 6) rfl rfl (by kernel_rfl) (fun _ _ _ h => h) (Or.inl ⟨by rfl, ?_⟩) ?_ ?_
              rotate_left
              · intro w'
                go_simp
                with_reducible rfl
              rotate_left
              · simp only [Act.put, List.setIfInBounds_toArray, List.set_cons_zero, List.set_cons_succ, i64_w, i32_w]
                rfl
              refine pure_ (i := 2) (N := some 15) (v := ?_) (a' := ?_) (bs 6 5) rfl rfl (by kernel_rfl) (fun _ _ _ h => h) (Or.inl ⟨by rfl, ?_⟩) ?_ ?_
              rotate_left
              · intro w'
                go_simp
                with_reducible rfl
              rotate_left
              · simp only [Act.put, List.setIfInBounds_toArray, List.set_cons_zero, List.set_cons_succ, i64_w, i32_w]
                rfl
              refine pure_ (i := 3) (N := some 16) (v := ?_) (a' := ?_) (bs 6 13) rfl rfl (by kernel_rfl) (fun _ _ _ h => h) (Or.inl ⟨by rfl, ?_⟩) ?_ ?_
              rotate_left
              · intro w'
                go_simp
                with_reducible rfl
              rotate_left
              · simp only [Act.put, List.setIfInBounds_toArray, List.set_cons_zero, List.set_cons_succ, i64_w, i32_w]
                rfl
              refine take_ (i := 1) (N := some 14) (v := ?_) (a' := ?_) (bb 4 6) rfl rfl (by kernel_rfl) (fun _ _ _ h => h) (Or.inl ⟨by rfl, ?_⟩) hHeld ?_ ?_
              rotate_left
              · intro w' _
                go_simp
                with_reducible rfl
              rotate_left
              · simp only [Act.put, List.setIfInBounds_toArray, List.set_cons_zero, List.set_cons_succ, i64_w, i32_w]
                rfl
              refine pure_ (i := 4) (N := some 5) (v := ?_) (a' := ?_) (bb 5 6) rfl rfl (by kernel_rfl) (fun _ _ _ h => h) (Or.inl ⟨by rfl, ?_⟩) ?_ ?_
              rotate_left
              · intro w'
                go_simp
                with_reducible rfl
              rotate_left
              · simp only [Act.put, List.setIfInBounds_toArray, List.set_cons_zero, List.set_cons_succ, i64_w, i32_w]
                rfl
              refine pure_ (i := 5) (N := some 0) (v := ?_) (a' := ?_) (bb 6 6) rfl rfl (by kernel_rfl) (fun _ _ _ h => h) (Or.inl ⟨by rfl, ?_⟩) ?_ ?_
              rotate_left
              · intro w'
                go_simp
                with_reducible rfl
              rotate_left
              · simp only [Act.put, List.setIfInBounds_toArray, List.set_cons_zero, List.set_cons_succ, i64_w, i32_w]
                rfl
              refine done_ (by kernel_rfl) ?_
              go_upto_if 57 with (fail)
              go_cut [57] (fun v57 wc => ∃ (kq : Nat) (x57_48 : Bool), v57 = .bool x57_48 ∧ Aside0 (code_get.j0 kq (a0.extract 1 a0.size) (bt a0 0) x57_48 = some (r1, r2, r3, r4, r5, r6)) ∧ Aside0 (kq ≤ k) ∧ Aside0 (wc.heap[gb477]? = some (.cells #[.int .i64 0, .int .i64 0, .float .f64 0, .string (⟨#[]⟩ : ByteArray)] 50 (0, 0))) ∧ Aside0 (Below w.heap.size w wc))
              case first =>
                have H := HC49.out
                clear HC49
                by_cases c52 : (bt a0 0) = 5
                · rw [if_pos c52] at H
                  have c52b0 : ((bt a0 0) == 5) = true := beq_iff_eq.mpr c52
                  have c52b1 : ((bt a0 0) != 5) = false := bne_eq_false_iff_eq.mpr c52
                  clear c52
                  (first | rw [c52b0] | (simp only [i64_w, i32_w]; rw [c52b0]) | skip)
                  have H' := am H
                  clear H
                  go_wp2
                  go_meet
                  case rel => exact ⟨_, (((bt a0 0) == 5)), eb, H', ⟨by first | omega | exact Nat.le_refl _⟩, ⟨bk BK477⟩, ⟨bl HB⟩⟩
                · rw [if_neg c52] at H
                  have c52b0 : ((bt a0 0) == 5) = false := beq_eq_false_iff_ne.mpr c52
                  have c52b1 : ((bt a0 0) != 5) = true := bne_iff_ne.mpr c52
                  (first | rw [c52b0] | (simp only [i64_w, i32_w]; rw [c52b0]) | skip)
                  have H' := am H
                  clear H
                  go_wp2
                  go_meet
                  case rel => exact ⟨_, (((bt a0 0) == 6)), eb, H', ⟨by first | omega | exact Nat.le_refl _⟩, ⟨bk BK477⟩, ⟨bl HB⟩⟩
              case rest =>
                clear HC49
                try clear c1
                try clear p1
                try clear q1
                try clear hx1
                try clear qi1
                try clear p2
                try clear q2
                try clear hx2
                try clear qi2
                try clear c3
                try clear p3
                try clear q3
                try clear hx3
                try clear qi3
                try clear c4
                try clear c5
                try clear c5b0
                try clear c5b1
                try clear p6
                try clear c7
                try clear c9
                try clear c9b0
                try clear c9b1
                try clear c11
                try clear c12
                try clear c12b0
                try clear c12b1
                try clear p13
                try clear q13
                try clear hx13
                try clear qi13
                try clear c14
                try clear c14b0
                try clear p22
                try clear q22
                try clear hx22
                try clear qi22
                try clear c37
                try clear c37b0
                try clear c37b1
                try clear c43
                try clear c43b0
                try clear c43b1
                try clear c52
                try clear c52b0
                try clear c52b1
                try clear Z21_0
                try clear Z21_1
                try clear Z21_2
                try clear Z21_3
                try clear Z29_0
                try clear Z29_1
                try clear Z29_2
                try clear Z29_3
                try clear Z36_0
                try clear Z36_1
                try clear Z36_2
                try clear Z36_3
                try clear Z42_0
                try clear Z42_1
                try clear Z42_2
                try clear Z42_3
                try clear Z48_0
                try clear Z48_1
                try clear Z48_2
                try clear Z48_3
                try clear Z8_0
                try clear Z8_1
                try clear Z8_2
                try clear Z8_3
                try clear Y21_0
                try clear Y21_1
                try clear Y21_2
                try clear Y21_3
                try clear Y29_0
                try clear Y29_1
                try clear Y29_2
                try clear Y29_3
                try clear Y36_0
                try clear Y36_1
                try clear Y36_2
                try clear Y36_3
                try clear Y42_0
                try clear Y42_1
                try clear Y42_2
                try clear Y42_3
                try clear Y48_0
                try clear Y48_1
                try clear Y48_2
                try clear Y48_3
                try clear Y8_0
                try clear Y8_1
                try clear Y8_2
                try clear Y8_3
                try clear p13
                try clear p22
                try clear p3
                try clear q13
                try clear q22
                try clear q3
                obtain ⟨kq, x57_48, rfl, HA, HJ48, BK477, HB⟩ := hcut
                cases kq with
                | zero => exact absurd HA.out (by simp [code_get.j0])
                | succ kj48 =>
                  have H := HA.out
                  clear HA
                  simp only [code_get.j0] at H
                  by_cases c53 : x57_48 = true
                  · subst c53
                    have H1 : ((code_getString.f (a0.extract 1 a0.size)).bind fun bt493 => (if (bt a0 0) = 6 then (if bt493.2.2 = true then ((value_Check.f kj48 5 0 0 bt493.1).bind fun t497 => (some (5, 0, 0, bt493.1, bt493.2.1, (t497 == 0)))) else (some (5, 0, 0, bt493.1, bt493.2.1, false))) else (if bt493.2.2 = true then ((value_Check.f kj48 4 0 0 bt493.1).bind fun t498 => (some (4, 0, 0, bt493.1, bt493.2.1, (t498 == 0)))) else (some (4, 0, 0, bt493.1, bt493.2.1, false))))) = some (r1, r2, r3, r4, r5, r6) := by rw [if_pos rfl] at H; exact H
                    clear H
                    have H := H1
                    clear H1
                    replace H := Option.bind_eq_some_iff.mp H
                    obtain ⟨⟨t493, t494, t495⟩, A540, H⟩ := H
                    replace H : (if (bt a0 0) = 6 then (if t495 = true then ((value_Check.f kj48 5 0 0 t493).bind fun t497 => (some (5, 0, 0, t493, t494, (t497 == 0)))) else (some (5, 0, 0, t493, t494, false))) else (if t495 = true then ((value_Check.f kj48 4 0 0 t493).bind fun t498 => (some (4, 0, 0, t493, t494, (t498 == 0)))) else (some (4, 0, 0, t493, t494, false)))) = some (r1, r2, r3, r4, r5, r6) := H
                    have A54 := am A540
                    clear A540
                    by_cases c55 : (bt a0 0) = 6
                    · rw [if_pos c55] at H
                      have c55b0 : ((bt a0 0) == 6) = true := beq_iff_eq.mpr c55
                      have c55b1 : ((bt a0 0) != 6) = false := bne_eq_false_iff_eq.mpr c55
                      clear c55
                      by_cases c56 : t495 = true
                      · subst c56
                        have H1 : ((value_Check.f kj48 5 0 0 t493).bind fun t497 => (some (5, 0, 0, t493, t494, (t497 == 0)))) = some (r1, r2, r3, r4, r5, r6) := by rw [if_pos rfl] at H; exact H
                        clear H
                        have H := H1
                        clear H1
                        replace H := Option.bind_eq_some_iff.mp H
                        obtain ⟨t497, A570, H⟩ := H
                        replace H : (some (5, 0, 0, t493, t494, (t497 == 0))) = some (r1, r2, r3, r4, r5, r6) := H
                        have A57 := am A570
                        clear A570
                        simp only [Option.some.injEq, Prod.mk.injEq] at H
                        obtain ⟨rfl, rfl, rfl, rfl, rfl, rfl⟩ := H
                        try go_wp2_with (first | ((with_reducible refine gate_callee (f := 113) rfl ?_); refine goesL_ (some 62) rfl rfl Tryd.func113 (by kernel_rfl) rfl #[.string (a0.extract 1 a0.size)] rfl ar ?_; (with_reducible refine (code_getString.calls (a0.extract 1 a0.size) t493 t494 true _ A54.out).mono ?_); rintro e w58 ⟨rfl, hb⟩; refine ⟨_, rfl, ?_⟩; replace BK477 := kb BK477 hb; replace HB := sb HB hb; (try clear hb); (try clear hb2 hk hi)) | ((with_reducible refine gate_dst (N := 12) rfl ?_); refine box_event rfl (N := 12) rfl (cs := #[.int .i64 0, .int .i64 0, .float .f64 0, .string (⟨#[]⟩ : ByteArray)]) (t := 50) gs ?_; intro gb496 hg w59 hbox hb; have BK496 := am (hbox); have GW496 := gw hg HB; have GE496 := gw hg HB; have NB477_496 := am ((by rw [hg]; exact Nat.ne_of_lt (blk_lt (bk BK477)) : gb477 ≠ gb496)); have NB496_477 := am ((by rw [hg]; exact Nat.ne_of_gt (blk_lt (bk BK477)) : gb496 ≠ gb477)); replace BK477 := kb BK477 hb; replace HB := sb HB hb; clear hb hbox hg; have hnb60 := NB496_477.out; have hnc60 := NB477_496.out; obtain ⟨Z61_0, Z61_1, Z61_2, Z61_3, Y61_0, Y61_1, Y61_2, Y61_3⟩ := bq4 BK496))
                        have n0_ : Aside0 ((((((w59.setCell ⟨gb496, 0, none⟩ (.int .i64 4)).setCell ⟨gb496, 1, none⟩ (.int .i64 0)).setCell ⟨gb496, 2, none⟩ (.float .f64 0)).setCell ⟨gb496, 3, none⟩ (.string t493)).setCell ⟨gb496, 0, none⟩ (.int .i64 5)).heap[gb477]? = some (.cells #[.int .i64 0, .int .i64 0, .float .f64 0, .string (⟨#[]⟩ : ByteArray)] 50 (0, 0))) := ⟨by refine rp ?_; refine blk_far ?_ NB477_496.out _; refine rp ?_; refine blk_far ?_ NB477_496.out _; refine rp ?_; refine blk_far ?_ NB477_496.out _; refine rp ?_; refine blk_far ?_ NB477_496.out _; refine rp ?_; refine blk_far ?_ NB477_496.out _; exact bk BK477⟩
                        have n1_ : Aside0 ((((((w59.setCell ⟨gb496, 0, none⟩ (.int .i64 4)).setCell ⟨gb496, 1, none⟩ (.int .i64 0)).setCell ⟨gb496, 2, none⟩ (.float .f64 0)).setCell ⟨gb496, 3, none⟩ (.string t493)).setCell ⟨gb496, 0, none⟩ (.int .i64 5)).heap[gb496]? = some (.cells #[.int .i64 5, .int .i64 0, .float .f64 0, .string t493] 50 (0, 0))) := ⟨by refine rp ?_; refine blk_put (cs := #[.int .i64 4, .int .i64 0, .float .f64 0, .string t493]) ?_ 0 _ rfl; refine rp ?_; refine blk_put (cs := #[.int .i64 4, .int .i64 0, .float .f64 0, .string (⟨#[]⟩ : ByteArray)]) ?_ 3 _ rfl; refine rp ?_; refine blk_put (cs := #[.int .i64 4, .int .i64 0, .float .f64 0, .string (⟨#[]⟩ : ByteArray)]) ?_ 2 _ rfl; refine rp ?_; refine blk_put (cs := #[.int .i64 4, .int .i64 0, .float .f64 0, .string (⟨#[]⟩ : ByteArray)]) ?_ 1 _ rfl; refine rp ?_; refine blk_put (cs := #[.int .i64 0, .int .i64 0, .float .f64 0, .string (⟨#[]⟩ : ByteArray)]) ?_ 0 _ rfl; exact bk BK496⟩
                        have n2_ : Aside0 (Below w.heap.size w (((((w59.setCell ⟨gb496, 0, none⟩ (.int .i64 4)).setCell ⟨gb496, 1, none⟩ (.int .i64 0)).setCell ⟨gb496, 2, none⟩ (.float .f64 0)).setCell ⟨gb496, 3, none⟩ (.string t493)).setCell ⟨gb496, 0, none⟩ (.int .i64 5))) := ⟨bl HB⟩
                        (try clear BK477)
                        (try clear BK496)
                        (try clear HB)
                        generalize (((((w59.setCell ⟨gb496, 0, none⟩ (.int .i64 4)).setCell ⟨gb496, 1, none⟩ (.int .i64 0)).setCell ⟨gb496, 2, none⟩ (.float .f64 0)).setCell ⟨gb496, 3, none⟩ (.string t493)).setCell ⟨gb496, 0, none⟩ (.int .i64 5)) = w62 at n0_ n1_ n2_ ⊢
                        have BK477 := n0_
                        have BK496 := n1_
                        have HB := n2_
                        clear n0_ n1_ n2_
                        have n0_ := am (blk_drew BK477.out)
                        have n1_ := am (blk_drew BK496.out)
                        have n2_ := am (below_drew1 HB.out)
                        clear BK477
                        clear BK496
                        clear HB
                        have BK477 := n0_
                        have BK496 := n1_
                        have HB := n2_
                        clear n0_ n1_ n2_
                        refine start_ (n := 11) (S := fun w' => w'.cell? ⟨gb496, 0, none⟩ = some (.int .i64 5) ∧ w'.cell? ⟨gb496, 1, none⟩ = some (.int .i64 0) ∧ w'.cell? ⟨gb496, 2, none⟩ = some (.float .f64 0) ∧ w'.cell? ⟨gb496, 3, none⟩ = some (.string t493)) (ds := []) (bb 0 11) (by kernel_rfl) rfl rfl ⟨(blk_cell BK496.out 0).trans rfl, (blk_cell BK496.out 1).trans rfl, (blk_cell BK496.out 2).trans rfl, (blk_cell BK496.out 3).trans rfl⟩ (fun hHeld => ?_); refine with_tabW code_get.tab20 code_get.bits20 (fun HT_ HW_ => ?_)
                        generalize w62.drew = w63 at BK477 BK496 HB hHeld ⊢
                        refine pu HT_ 1 (some 72) (bs 11 2) ?_
                        refine pu HT_ 2 (some 73) (bs 11 6) ?_
                        refine pu HT_ 3 (some 74) (bs 11 14) ?_
                        refine tk HT_ HW_ hHeld 0 (some 71) (bb 4 11) ?_
                        refine tk HT_ HW_ hHeld 4 (some 75) (bb 5 11) ?_
                        refine one_ (i := 5) (N := some 76) (bb 6 11) rfl rfl (one_of HT_.out (by kernel_rfl)) (by decide) (fun K hK => ?_)
                        refine goes_ Tryd.func67 (by kernel_rfl) rfl #[.agg #[.int .i64 5, .int .i64 0, .float .f64 0, .string t493]] (by rfl) rfl rfl ar ?_
                        with_reducible refine (value_Check.calls kj48 5 0 0 t493 t497 _ ?side1 A57.out).mono ?_
                        (case side1 => exact Glob.below HG.out (bl HB))
                        rintro e w64 ⟨rfl, hb⟩
                        refine ⟨_, rfl, ?_⟩
                        have n0_ := kb BK477 hb
                        have n1_ := kb BK496 hb
                        have n2_ := sb HB hb
                        clear BK477
                        clear BK496
                        clear HB
                        have BK477 := n0_
                        have BK496 := n1_
                        have HB := n2_
                        clear n0_ n1_ n2_
                        (try clear hb)
                        (try clear hb2)
                        (try clear hk)
                        (try clear hi)
                        refine hK.out _ _ ⟨(blk_cell BK496.out 0).trans rfl, (blk_cell BK496.out 1).trans rfl, (blk_cell BK496.out 2).trans rfl, (blk_cell BK496.out 3).trans rfl⟩ (fun hHeld => ?_)
                        clear hK K
                        refine norm_ (a' := ?_) ?_ ?_
                        rotate_left
                        · show Act.put _ (some 76) _ = _
                          simp only [Act.put, List.setIfInBounds_toArray, List.set_cons_zero, List.set_cons_succ, i64_w, i32_w]
                          rfl
                        refine pu HT_ 6 (some 77) (bb 7 11) ?_
                        refine pu HT_ 7 (some 78) (bb 8 11) ?_
                        refine one_ (i := 8) (N := none) (bb 9 11) rfl rfl (one_of HT_.out (by kernel_rfl)) (by decide) (fun K hK => ?_)
                        have hs65 : w64.cell? ⟨gb477, 0, none⟩ = some (.int .i64 0) := (blk_cell BK477.out 0).trans rfl
                        have hfs65 := blk_frozen BK477.out 0
                        have hns65_1 := NB496_477.out
                        have hms65_1 := NB477_496.out
                        have hs66 : w64.cell? ⟨gb477, 1, none⟩ = some (.int .i64 0) := (blk_cell BK477.out 1).trans rfl
                        have hfs66 := blk_frozen BK477.out 1
                        have hns66_1 := NB496_477.out
                        have hms66_1 := NB477_496.out
                        have hs67 : w64.cell? ⟨gb477, 2, none⟩ = some (.float .f64 0) := (blk_cell BK477.out 2).trans rfl
                        have hfs67 := blk_frozen BK477.out 2
                        have hns67_1 := NB496_477.out
                        have hms67_1 := NB477_496.out
                        have hs68 : w64.cell? ⟨gb477, 3, none⟩ = some (.string (⟨#[]⟩ : ByteArray)) := (blk_cell BK477.out 3).trans rfl
                        have hfs68 := blk_frozen BK477.out 3
                        have hns68_1 := NB496_477.out
                        have hms68_1 := NB477_496.out
                        refine skip_ (w1 := ?_) (by rfl) rfl ?_ ?_
                        rotate_left
                        · go_simp
                          rfl
                        refine hK.out _ _ ⟨((cell_far (p := ⟨gb477, _, none⟩) NB496_477.out _).trans (((cell_far (p := ⟨gb477, _, none⟩) NB496_477.out _).trans (((cell_far (p := ⟨gb477, _, none⟩) NB496_477.out _).trans (((cell_far (p := ⟨gb477, _, none⟩) NB496_477.out _).trans (hHeld.1)))))))), ((cell_far (p := ⟨gb477, _, none⟩) NB496_477.out _).trans (((cell_far (p := ⟨gb477, _, none⟩) NB496_477.out _).trans (((cell_far (p := ⟨gb477, _, none⟩) NB496_477.out _).trans (((cell_far (p := ⟨gb477, _, none⟩) NB496_477.out _).trans (hHeld.2.1)))))))), ((cell_far (p := ⟨gb477, _, none⟩) NB496_477.out _).trans (((cell_far (p := ⟨gb477, _, none⟩) NB496_477.out _).trans (((cell_far (p := ⟨gb477, _, none⟩) NB496_477.out _).trans (((cell_far (p := ⟨gb477, _, none⟩) NB496_477.out _).trans (hHeld.2.2.1)))))))), ((cell_far (p := ⟨gb477, _, none⟩) NB496_477.out _).trans (((cell_far (p := ⟨gb477, _, none⟩) NB496_477.out _).trans (((cell_far (p := ⟨gb477, _, none⟩) NB496_477.out _).trans (((cell_far (p := ⟨gb477, _, none⟩) NB496_477.out _).trans (hHeld.2.2.2))))))))⟩ (fun hHeld => ?_)
                        clear hK K
                        refine pu HT_ 9 (some 3) (bb 10 11) ?_
                        refine pu HT_ 10 (some 4) (bb 11 11) ?_
                        refine done_ (done_of HT_.out (by kernel_rfl)) ?_
                        try go_wp2
                        refine bodyPost_ret (results_ctt rfl _ _ gb477 50 #[.int .i64 5, .int .i64 0, .float .f64 0, .string t493] (0, 0) _ rfl (by refine rp ?_; refine blk_put (cs := #[.int .i64 5, .int .i64 0, .float .f64 0, .string (⟨#[]⟩ : ByteArray)]) ?_ 3 _ rfl; refine rp ?_; refine blk_put (cs := #[.int .i64 5, .int .i64 0, .float .f64 0, .string (⟨#[]⟩ : ByteArray)]) ?_ 2 _ rfl; refine rp ?_; refine blk_put (cs := #[.int .i64 5, .int .i64 0, .float .f64 0, .string (⟨#[]⟩ : ByteArray)]) ?_ 1 _ rfl; refine rp ?_; refine blk_put (cs := #[.int .i64 0, .int .i64 0, .float .f64 0, .string (⟨#[]⟩ : ByteArray)]) ?_ 0 _ rfl; exact bk BK477) Tryd.underlying50 rfl (by kernel_rfl)) rfl ?_
                        exact ⟨er, bl HB⟩
                      · replace c56 := Bool.eq_false_iff.mpr c56
                        subst c56
                        have H1 : (some (5, 0, 0, t493, t494, false)) = some (r1, r2, r3, r4, r5, r6) := by rw [if_neg (show ¬ (false = true) by decide)] at H; exact H
                        clear H
                        have H := H1
                        clear H1
                        simp only [Option.some.injEq, Prod.mk.injEq] at H
                        obtain ⟨rfl, rfl, rfl, rfl, rfl, rfl⟩ := H
                        try go_wp2_with (first | ((with_reducible refine gate_callee (f := 113) rfl ?_); refine goesL_ (some 62) rfl rfl Tryd.func113 (by kernel_rfl) rfl #[.string (a0.extract 1 a0.size)] rfl ar ?_; (with_reducible refine (code_getString.calls (a0.extract 1 a0.size) t493 t494 false _ A54.out).mono ?_); rintro e w69 ⟨rfl, hb⟩; refine ⟨_, rfl, ?_⟩; replace BK477 := kb BK477 hb; replace HB := sb HB hb; (try clear hb); (try clear hb2 hk hi)) | ((with_reducible refine gate_dst (N := 12) rfl ?_); refine box_event rfl (N := 12) rfl (cs := #[.int .i64 0, .int .i64 0, .float .f64 0, .string (⟨#[]⟩ : ByteArray)]) (t := 50) gs ?_; intro gb496 hg w70 hbox hb; have BK496 := am (hbox); have GW496 := gw hg HB; have GE496 := gw hg HB; have NB477_496 := am ((by rw [hg]; exact Nat.ne_of_lt (blk_lt (bk BK477)) : gb477 ≠ gb496)); have NB496_477 := am ((by rw [hg]; exact Nat.ne_of_gt (blk_lt (bk BK477)) : gb496 ≠ gb477)); replace BK477 := kb BK477 hb; replace HB := sb HB hb; clear hb hbox hg; have hnb71 := NB496_477.out; have hnc71 := NB477_496.out; obtain ⟨Z72_0, Z72_1, Z72_2, Z72_3, Y72_0, Y72_1, Y72_2, Y72_3⟩ := bq4 BK496))
                        have n0_ : Aside0 ((((((w70.setCell ⟨gb496, 0, none⟩ (.int .i64 4)).setCell ⟨gb496, 1, none⟩ (.int .i64 0)).setCell ⟨gb496, 2, none⟩ (.float .f64 0)).setCell ⟨gb496, 3, none⟩ (.string t493)).setCell ⟨gb496, 0, none⟩ (.int .i64 5)).heap[gb477]? = some (.cells #[.int .i64 0, .int .i64 0, .float .f64 0, .string (⟨#[]⟩ : ByteArray)] 50 (0, 0))) := ⟨by refine rp ?_; refine blk_far ?_ NB477_496.out _; refine rp ?_; refine blk_far ?_ NB477_496.out _; refine rp ?_; refine blk_far ?_ NB477_496.out _; refine rp ?_; refine blk_far ?_ NB477_496.out _; refine rp ?_; refine blk_far ?_ NB477_496.out _; exact bk BK477⟩
                        have n1_ : Aside0 ((((((w70.setCell ⟨gb496, 0, none⟩ (.int .i64 4)).setCell ⟨gb496, 1, none⟩ (.int .i64 0)).setCell ⟨gb496, 2, none⟩ (.float .f64 0)).setCell ⟨gb496, 3, none⟩ (.string t493)).setCell ⟨gb496, 0, none⟩ (.int .i64 5)).heap[gb496]? = some (.cells #[.int .i64 5, .int .i64 0, .float .f64 0, .string t493] 50 (0, 0))) := ⟨by refine rp ?_; refine blk_put (cs := #[.int .i64 4, .int .i64 0, .float .f64 0, .string t493]) ?_ 0 _ rfl; refine rp ?_; refine blk_put (cs := #[.int .i64 4, .int .i64 0, .float .f64 0, .string (⟨#[]⟩ : ByteArray)]) ?_ 3 _ rfl; refine rp ?_; refine blk_put (cs := #[.int .i64 4, .int .i64 0, .float .f64 0, .string (⟨#[]⟩ : ByteArray)]) ?_ 2 _ rfl; refine rp ?_; refine blk_put (cs := #[.int .i64 4, .int .i64 0, .float .f64 0, .string (⟨#[]⟩ : ByteArray)]) ?_ 1 _ rfl; refine rp ?_; refine blk_put (cs := #[.int .i64 0, .int .i64 0, .float .f64 0, .string (⟨#[]⟩ : ByteArray)]) ?_ 0 _ rfl; exact bk BK496⟩
                        have n2_ : Aside0 (Below w.heap.size w (((((w70.setCell ⟨gb496, 0, none⟩ (.int .i64 4)).setCell ⟨gb496, 1, none⟩ (.int .i64 0)).setCell ⟨gb496, 2, none⟩ (.float .f64 0)).setCell ⟨gb496, 3, none⟩ (.string t493)).setCell ⟨gb496, 0, none⟩ (.int .i64 5))) := ⟨bl HB⟩
                        (try clear BK477)
                        (try clear BK496)
                        (try clear HB)
                        generalize (((((w70.setCell ⟨gb496, 0, none⟩ (.int .i64 4)).setCell ⟨gb496, 1, none⟩ (.int .i64 0)).setCell ⟨gb496, 2, none⟩ (.float .f64 0)).setCell ⟨gb496, 3, none⟩ (.string t493)).setCell ⟨gb496, 0, none⟩ (.int .i64 5)) = w73 at n0_ n1_ n2_ ⊢
                        have BK477 := n0_
                        have BK496 := n1_
                        have HB := n2_
                        clear n0_ n1_ n2_
                        have n0_ := am (blk_drew BK477.out)
                        have n1_ := am (blk_drew BK496.out)
                        have n2_ := am (below_drew1 HB.out)
                        clear BK477
                        clear BK496
                        clear HB
                        have BK477 := n0_
                        have BK496 := n1_
                        have HB := n2_
                        clear n0_ n1_ n2_
                        refine start_ (n := 11) (S := fun w' => w'.cell? ⟨gb496, 0, none⟩ = some (.int .i64 5) ∧ w'.cell? ⟨gb496, 1, none⟩ = some (.int .i64 0) ∧ w'.cell? ⟨gb496, 2, none⟩ = some (.float .f64 0) ∧ w'.cell? ⟨gb496, 3, none⟩ = some (.string t493)) (ds := []) (bb 0 11) (by kernel_rfl) rfl rfl ⟨(blk_cell BK496.out 0).trans rfl, (blk_cell BK496.out 1).trans rfl, (blk_cell BK496.out 2).trans rfl, (blk_cell BK496.out 3).trans rfl⟩ (fun hHeld => ?_); refine with_tabW code_get.tab20 code_get.bits20 (fun HT_ HW_ => ?_)
                        generalize w73.drew = w74 at BK477 BK496 HB hHeld ⊢
                        refine pu HT_ 1 (some 72) (bs 11 2) ?_
                        refine pu HT_ 2 (some 73) (bs 11 6) ?_
                        refine pu HT_ 3 (some 74) (bs 11 14) ?_
                        refine pure_ (i := 4) (N := some 75) (v := undef) (a' := ?_) (bs 11 30) rfl rfl (any_of HT_.out (by kernel_rfl)) (fun _ _ _ h => h) (Or.inr ⟨by rfl, rfl⟩) ?_ ?_
                        rotate_left
                        · simp only [Act.put, List.setIfInBounds_toArray, List.set_cons_zero, List.set_cons_succ, i64_w, i32_w]
                          rfl
                        refine pure_ (i := 5) (N := some 76) (v := undef) (a' := ?_) (bs 11 62) rfl rfl (any_of HT_.out (by kernel_rfl)) (fun _ _ _ h => h) (Or.inr ⟨by rfl, rfl⟩) ?_ ?_
                        rotate_left
                        · simp only [Act.put, List.setIfInBounds_toArray, List.set_cons_zero, List.set_cons_succ, i64_w, i32_w]
                          rfl
                        refine pure_ (i := 6) (N := some 77) (v := undef) (a' := ?_) (bs 11 126) rfl rfl (any_of HT_.out (by kernel_rfl)) (fun _ _ _ h => h) (Or.inr ⟨by rfl, rfl⟩) ?_ ?_
                        rotate_left
                        · simp only [Act.put, List.setIfInBounds_toArray, List.set_cons_zero, List.set_cons_succ, i64_w, i32_w]
                          rfl
                        refine pu HT_ 7 (some 78) (bs 11 254) ?_
                        refine tk HT_ HW_ hHeld 0 (some 71) (bb 8 11) ?_
                        refine one_ (i := 8) (N := none) (bb 9 11) rfl rfl (one_of HT_.out (by kernel_rfl)) (by decide) (fun K hK => ?_)
                        have hs75 : w74.cell? ⟨gb477, 0, none⟩ = some (.int .i64 0) := (blk_cell BK477.out 0).trans rfl
                        have hfs75 := blk_frozen BK477.out 0
                        have hns75_1 := NB496_477.out
                        have hms75_1 := NB477_496.out
                        have hs76 : w74.cell? ⟨gb477, 1, none⟩ = some (.int .i64 0) := (blk_cell BK477.out 1).trans rfl
                        have hfs76 := blk_frozen BK477.out 1
                        have hns76_1 := NB496_477.out
                        have hms76_1 := NB477_496.out
                        have hs77 : w74.cell? ⟨gb477, 2, none⟩ = some (.float .f64 0) := (blk_cell BK477.out 2).trans rfl
                        have hfs77 := blk_frozen BK477.out 2
                        have hns77_1 := NB496_477.out
                        have hms77_1 := NB477_496.out
                        have hs78 : w74.cell? ⟨gb477, 3, none⟩ = some (.string (⟨#[]⟩ : ByteArray)) := (blk_cell BK477.out 3).trans rfl
                        have hfs78 := blk_frozen BK477.out 3
                        have hns78_1 := NB496_477.out
                        have hms78_1 := NB477_496.out
                        refine skip_ (w1 := ?_) (by rfl) rfl ?_ ?_
                        rotate_left
                        · go_simp
                          rfl
                        refine hK.out _ _ ⟨((cell_far (p := ⟨gb477, _, none⟩) NB496_477.out _).trans (((cell_far (p := ⟨gb477, _, none⟩) NB496_477.out _).trans (((cell_far (p := ⟨gb477, _, none⟩) NB496_477.out _).trans (((cell_far (p := ⟨gb477, _, none⟩) NB496_477.out _).trans (hHeld.1)))))))), ((cell_far (p := ⟨gb477, _, none⟩) NB496_477.out _).trans (((cell_far (p := ⟨gb477, _, none⟩) NB496_477.out _).trans (((cell_far (p := ⟨gb477, _, none⟩) NB496_477.out _).trans (((cell_far (p := ⟨gb477, _, none⟩) NB496_477.out _).trans (hHeld.2.1)))))))), ((cell_far (p := ⟨gb477, _, none⟩) NB496_477.out _).trans (((cell_far (p := ⟨gb477, _, none⟩) NB496_477.out _).trans (((cell_far (p := ⟨gb477, _, none⟩) NB496_477.out _).trans (((cell_far (p := ⟨gb477, _, none⟩) NB496_477.out _).trans (hHeld.2.2.1)))))))), ((cell_far (p := ⟨gb477, _, none⟩) NB496_477.out _).trans (((cell_far (p := ⟨gb477, _, none⟩) NB496_477.out _).trans (((cell_far (p := ⟨gb477, _, none⟩) NB496_477.out _).trans (((cell_far (p := ⟨gb477, _, none⟩) NB496_477.out _).trans (hHeld.2.2.2))))))))⟩ (fun hHeld => ?_)
                        clear hK K
                        refine pu HT_ 9 (some 3) (bb 10 11) ?_
                        refine pu HT_ 10 (some 4) (bb 11 11) ?_
                        refine done_ (done_of HT_.out (by kernel_rfl)) ?_
                        try go_wp2
                        refine bodyPost_ret (results_ctt rfl _ _ gb477 50 #[.int .i64 5, .int .i64 0, .float .f64 0, .string t493] (0, 0) _ rfl (by refine rp ?_; refine blk_put (cs := #[.int .i64 5, .int .i64 0, .float .f64 0, .string (⟨#[]⟩ : ByteArray)]) ?_ 3 _ rfl; refine rp ?_; refine blk_put (cs := #[.int .i64 5, .int .i64 0, .float .f64 0, .string (⟨#[]⟩ : ByteArray)]) ?_ 2 _ rfl; refine rp ?_; refine blk_put (cs := #[.int .i64 5, .int .i64 0, .float .f64 0, .string (⟨#[]⟩ : ByteArray)]) ?_ 1 _ rfl; refine rp ?_; refine blk_put (cs := #[.int .i64 0, .int .i64 0, .float .f64 0, .string (⟨#[]⟩ : ByteArray)]) ?_ 0 _ rfl; exact bk BK477) Tryd.underlying50 rfl (by kernel_rfl)) rfl ?_
                        exact ⟨er, bl HB⟩
                    · rw [if_neg c55] at H
                      have c55b0 : ((bt a0 0) == 6) = false := beq_eq_false_iff_ne.mpr c55
                      have c55b1 : ((bt a0 0) != 6) = true := bne_iff_ne.mpr c55
                      by_cases c79 : t495 = true
                      · subst c79
                        have H1 : ((value_Check.f kj48 4 0 0 t493).bind fun t498 => (some (4, 0, 0, t493, t494, (t498 == 0)))) = some (r1, r2, r3, r4, r5, r6) := by rw [if_pos rfl] at H; exact H
                        clear H
                        have H := H1
                        clear H1
                        replace H := Option.bind_eq_some_iff.mp H
                        obtain ⟨t498, A800, H⟩ := H
                        replace H : (some (4, 0, 0, t493, t494, (t498 == 0))) = some (r1, r2, r3, r4, r5, r6) := H
                        have A80 := am A800
                        clear A800
                        simp only [Option.some.injEq, Prod.mk.injEq] at H
                        obtain ⟨rfl, rfl, rfl, rfl, rfl, rfl⟩ := H
                        try go_wp2_with (first | ((with_reducible refine gate_callee (f := 113) rfl ?_); refine goesL_ (some 62) rfl rfl Tryd.func113 (by kernel_rfl) rfl #[.string (a0.extract 1 a0.size)] rfl ar ?_; (with_reducible refine (code_getString.calls (a0.extract 1 a0.size) t493 t494 true _ A54.out).mono ?_); rintro e w81 ⟨rfl, hb⟩; refine ⟨_, rfl, ?_⟩; replace BK477 := kb BK477 hb; replace HB := sb HB hb; (try clear hb); (try clear hb2 hk hi)) | ((with_reducible refine gate_dst (N := 12) rfl ?_); refine box_event rfl (N := 12) rfl (cs := #[.int .i64 0, .int .i64 0, .float .f64 0, .string (⟨#[]⟩ : ByteArray)]) (t := 50) gs ?_; intro gb496 hg w82 hbox hb; have BK496 := am (hbox); have GW496 := gw hg HB; have GE496 := gw hg HB; have NB477_496 := am ((by rw [hg]; exact Nat.ne_of_lt (blk_lt (bk BK477)) : gb477 ≠ gb496)); have NB496_477 := am ((by rw [hg]; exact Nat.ne_of_gt (blk_lt (bk BK477)) : gb496 ≠ gb477)); replace BK477 := kb BK477 hb; replace HB := sb HB hb; clear hb hbox hg; have hnb83 := NB496_477.out; have hnc83 := NB477_496.out; obtain ⟨Z84_0, Z84_1, Z84_2, Z84_3, Y84_0, Y84_1, Y84_2, Y84_3⟩ := bq4 BK496))
                        have n0_ : Aside0 (((((w82.setCell ⟨gb496, 0, none⟩ (.int .i64 4)).setCell ⟨gb496, 1, none⟩ (.int .i64 0)).setCell ⟨gb496, 2, none⟩ (.float .f64 0)).setCell ⟨gb496, 3, none⟩ (.string t493)).heap[gb477]? = some (.cells #[.int .i64 0, .int .i64 0, .float .f64 0, .string (⟨#[]⟩ : ByteArray)] 50 (0, 0))) := ⟨by refine rp ?_; refine blk_far ?_ NB477_496.out _; refine rp ?_; refine blk_far ?_ NB477_496.out _; refine rp ?_; refine blk_far ?_ NB477_496.out _; refine rp ?_; refine blk_far ?_ NB477_496.out _; exact bk BK477⟩
                        have n1_ : Aside0 (((((w82.setCell ⟨gb496, 0, none⟩ (.int .i64 4)).setCell ⟨gb496, 1, none⟩ (.int .i64 0)).setCell ⟨gb496, 2, none⟩ (.float .f64 0)).setCell ⟨gb496, 3, none⟩ (.string t493)).heap[gb496]? = some (.cells #[.int .i64 4, .int .i64 0, .float .f64 0, .string t493] 50 (0, 0))) := ⟨by refine rp ?_; refine blk_put (cs := #[.int .i64 4, .int .i64 0, .float .f64 0, .string (⟨#[]⟩ : ByteArray)]) ?_ 3 _ rfl; refine rp ?_; refine blk_put (cs := #[.int .i64 4, .int .i64 0, .float .f64 0, .string (⟨#[]⟩ : ByteArray)]) ?_ 2 _ rfl; refine rp ?_; refine blk_put (cs := #[.int .i64 4, .int .i64 0, .float .f64 0, .string (⟨#[]⟩ : ByteArray)]) ?_ 1 _ rfl; refine rp ?_; refine blk_put (cs := #[.int .i64 0, .int .i64 0, .float .f64 0, .string (⟨#[]⟩ : ByteArray)]) ?_ 0 _ rfl; exact bk BK496⟩
                        have n2_ : Aside0 (Below w.heap.size w ((((w82.setCell ⟨gb496, 0, none⟩ (.int .i64 4)).setCell ⟨gb496, 1, none⟩ (.int .i64 0)).setCell ⟨gb496, 2, none⟩ (.float .f64 0)).setCell ⟨gb496, 3, none⟩ (.string t493))) := ⟨bl HB⟩
                        (try clear BK477)
                        (try clear BK496)
                        (try clear HB)
                        generalize ((((w82.setCell ⟨gb496, 0, none⟩ (.int .i64 4)).setCell ⟨gb496, 1, none⟩ (.int .i64 0)).setCell ⟨gb496, 2, none⟩ (.float .f64 0)).setCell ⟨gb496, 3, none⟩ (.string t493)) = w85 at n0_ n1_ n2_ ⊢
                        have BK477 := n0_
                        have BK496 := n1_
                        have HB := n2_
                        clear n0_ n1_ n2_
                        have n0_ := am (blk_drew BK477.out)
                        have n1_ := am (blk_drew BK496.out)
                        have n2_ := am (below_drew1 HB.out)
                        clear BK477
                        clear BK496
                        clear HB
                        have BK477 := n0_
                        have BK496 := n1_
                        have HB := n2_
                        clear n0_ n1_ n2_
                        refine start_ (n := 11) (S := fun w' => w'.cell? ⟨gb496, 0, none⟩ = some (.int .i64 4) ∧ w'.cell? ⟨gb496, 1, none⟩ = some (.int .i64 0) ∧ w'.cell? ⟨gb496, 2, none⟩ = some (.float .f64 0) ∧ w'.cell? ⟨gb496, 3, none⟩ = some (.string t493)) (ds := []) (bb 0 11) (by kernel_rfl) rfl rfl ⟨(blk_cell BK496.out 0).trans rfl, (blk_cell BK496.out 1).trans rfl, (blk_cell BK496.out 2).trans rfl, (blk_cell BK496.out 3).trans rfl⟩ (fun hHeld => ?_); refine with_tabW code_get.tab20 code_get.bits20 (fun HT_ HW_ => ?_)
                        generalize w85.drew = w86 at BK477 BK496 HB hHeld ⊢
                        refine pu HT_ 1 (some 72) (bs 11 2) ?_
                        refine pu HT_ 2 (some 73) (bs 11 6) ?_
                        refine pu HT_ 3 (some 74) (bs 11 14) ?_
                        refine tk HT_ HW_ hHeld 0 (some 71) (bb 4 11) ?_
                        refine tk HT_ HW_ hHeld 4 (some 75) (bb 5 11) ?_
                        refine one_ (i := 5) (N := some 76) (bb 6 11) rfl rfl (one_of HT_.out (by kernel_rfl)) (by decide) (fun K hK => ?_)
                        refine goes_ Tryd.func67 (by kernel_rfl) rfl #[.agg #[.int .i64 4, .int .i64 0, .float .f64 0, .string t493]] (by rfl) rfl rfl ar ?_
                        with_reducible refine (value_Check.calls kj48 4 0 0 t493 t498 _ ?side1 A80.out).mono ?_
                        (case side1 => exact Glob.below HG.out (bl HB))
                        rintro e w87 ⟨rfl, hb⟩
                        refine ⟨_, rfl, ?_⟩
                        have n0_ := kb BK477 hb
                        have n1_ := kb BK496 hb
                        have n2_ := sb HB hb
                        clear BK477
                        clear BK496
                        clear HB
                        have BK477 := n0_
                        have BK496 := n1_
                        have HB := n2_
                        clear n0_ n1_ n2_
                        (try clear hb)
                        (try clear hb2)
                        (try clear hk)
                        (try clear hi)
                        refine hK.out _ _ ⟨(blk_cell BK496.out 0).trans rfl, (blk_cell BK496.out 1).trans rfl, (blk_cell BK496.out 2).trans rfl, (blk_cell BK496.out 3).trans rfl⟩ (fun hHeld => ?_)
                        clear hK K
                        refine norm_ (a' := ?_) ?_ ?_
                        rotate_left
                        · show Act.put _ (some 76) _ = _
                          simp only [Act.put, List.setIfInBounds_toArray, List.set_cons_zero, List.set_cons_succ, i64_w, i32_w]
                          rfl
                        refine pu HT_ 6 (some 77) (bb 7 11) ?_
                        refine pu HT_ 7 (some 78) (bb 8 11) ?_
                        refine one_ (i := 8) (N := none) (bb 9 11) rfl rfl (one_of HT_.out (by kernel_rfl)) (by decide) (fun K hK => ?_)
                        have hs88 : w87.cell? ⟨gb477, 0, none⟩ = some (.int .i64 0) := (blk_cell BK477.out 0).trans rfl
                        have hfs88 := blk_frozen BK477.out 0
                        have hns88_1 := NB496_477.out
                        have hms88_1 := NB477_496.out
                        have hs89 : w87.cell? ⟨gb477, 1, none⟩ = some (.int .i64 0) := (blk_cell BK477.out 1).trans rfl
                        have hfs89 := blk_frozen BK477.out 1
                        have hns89_1 := NB496_477.out
                        have hms89_1 := NB477_496.out
                        have hs90 : w87.cell? ⟨gb477, 2, none⟩ = some (.float .f64 0) := (blk_cell BK477.out 2).trans rfl
                        have hfs90 := blk_frozen BK477.out 2
                        have hns90_1 := NB496_477.out
                        have hms90_1 := NB477_496.out
                        have hs91 : w87.cell? ⟨gb477, 3, none⟩ = some (.string (⟨#[]⟩ : ByteArray)) := (blk_cell BK477.out 3).trans rfl
                        have hfs91 := blk_frozen BK477.out 3
                        have hns91_1 := NB496_477.out
                        have hms91_1 := NB477_496.out
                        refine skip_ (w1 := ?_) (by rfl) rfl ?_ ?_
                        rotate_left
                        · go_simp
                          rfl
                        refine hK.out _ _ ⟨((cell_far (p := ⟨gb477, _, none⟩) NB496_477.out _).trans (((cell_far (p := ⟨gb477, _, none⟩) NB496_477.out _).trans (((cell_far (p := ⟨gb477, _, none⟩) NB496_477.out _).trans (((cell_far (p := ⟨gb477, _, none⟩) NB496_477.out _).trans (hHeld.1)))))))), ((cell_far (p := ⟨gb477, _, none⟩) NB496_477.out _).trans (((cell_far (p := ⟨gb477, _, none⟩) NB496_477.out _).trans (((cell_far (p := ⟨gb477, _, none⟩) NB496_477.out _).trans (((cell_far (p := ⟨gb477, _, none⟩) NB496_477.out _).trans (hHeld.2.1)))))))), ((cell_far (p := ⟨gb477, _, none⟩) NB496_477.out _).trans (((cell_far (p := ⟨gb477, _, none⟩) NB496_477.out _).trans (((cell_far (p := ⟨gb477, _, none⟩) NB496_477.out _).trans (((cell_far (p := ⟨gb477, _, none⟩) NB496_477.out _).trans (hHeld.2.2.1)))))))), ((cell_far (p := ⟨gb477, _, none⟩) NB496_477.out _).trans (((cell_far (p := ⟨gb477, _, none⟩) NB496_477.out _).trans (((cell_far (p := ⟨gb477, _, none⟩) NB496_477.out _).trans (((cell_far (p := ⟨gb477, _, none⟩) NB496_477.out _).trans (hHeld.2.2.2))))))))⟩ (fun hHeld => ?_)
                        clear hK K
                        refine pu HT_ 9 (some 3) (bb 10 11) ?_
                        refine pu HT_ 10 (some 4) (bb 11 11) ?_
                        refine done_ (done_of HT_.out (by kernel_rfl)) ?_
                        try go_wp2
                        refine bodyPost_ret (results_ctt rfl _ _ gb477 50 #[.int .i64 4, .int .i64 0, .float .f64 0, .string t493] (0, 0) _ rfl (by refine rp ?_; refine blk_put (cs := #[.int .i64 4, .int .i64 0, .float .f64 0, .string (⟨#[]⟩ : ByteArray)]) ?_ 3 _ rfl; refine rp ?_; refine blk_put (cs := #[.int .i64 4, .int .i64 0, .float .f64 0, .string (⟨#[]⟩ : ByteArray)]) ?_ 2 _ rfl; refine rp ?_; refine blk_put (cs := #[.int .i64 4, .int .i64 0, .float .f64 0, .string (⟨#[]⟩ : ByteArray)]) ?_ 1 _ rfl; refine rp ?_; refine blk_put (cs := #[.int .i64 0, .int .i64 0, .float .f64 0, .string (⟨#[]⟩ : ByteArray)]) ?_ 0 _ rfl; exact bk BK477) Tryd.underlying50 rfl (by kernel_rfl)) rfl ?_
                        exact ⟨er, bl HB⟩
                      · replace c79 := Bool.eq_false_iff.mpr c79
                        subst c79
                        have H1 : (some (4, 0, 0, t493, t494, false)) = some (r1, r2, r3, r4, r5, r6) := by rw [if_neg (show ¬ (false = true) by decide)] at H; exact H
                        clear H
                        have H := H1
                        clear H1
                        simp only [Option.some.injEq, Prod.mk.injEq] at H
                        obtain ⟨rfl, rfl, rfl, rfl, rfl, rfl⟩ := H
                        try go_wp2_with (first | ((with_reducible refine gate_callee (f := 113) rfl ?_); refine goesL_ (some 62) rfl rfl Tryd.func113 (by kernel_rfl) rfl #[.string (a0.extract 1 a0.size)] rfl ar ?_; (with_reducible refine (code_getString.calls (a0.extract 1 a0.size) t493 t494 false _ A54.out).mono ?_); rintro e w92 ⟨rfl, hb⟩; refine ⟨_, rfl, ?_⟩; replace BK477 := kb BK477 hb; replace HB := sb HB hb; (try clear hb); (try clear hb2 hk hi)) | ((with_reducible refine gate_dst (N := 12) rfl ?_); refine box_event rfl (N := 12) rfl (cs := #[.int .i64 0, .int .i64 0, .float .f64 0, .string (⟨#[]⟩ : ByteArray)]) (t := 50) gs ?_; intro gb496 hg w93 hbox hb; have BK496 := am (hbox); have GW496 := gw hg HB; have GE496 := gw hg HB; have NB477_496 := am ((by rw [hg]; exact Nat.ne_of_lt (blk_lt (bk BK477)) : gb477 ≠ gb496)); have NB496_477 := am ((by rw [hg]; exact Nat.ne_of_gt (blk_lt (bk BK477)) : gb496 ≠ gb477)); replace BK477 := kb BK477 hb; replace HB := sb HB hb; clear hb hbox hg; have hnb94 := NB496_477.out; have hnc94 := NB477_496.out; obtain ⟨Z95_0, Z95_1, Z95_2, Z95_3, Y95_0, Y95_1, Y95_2, Y95_3⟩ := bq4 BK496))
                        have n0_ : Aside0 (((((w93.setCell ⟨gb496, 0, none⟩ (.int .i64 4)).setCell ⟨gb496, 1, none⟩ (.int .i64 0)).setCell ⟨gb496, 2, none⟩ (.float .f64 0)).setCell ⟨gb496, 3, none⟩ (.string t493)).heap[gb477]? = some (.cells #[.int .i64 0, .int .i64 0, .float .f64 0, .string (⟨#[]⟩ : ByteArray)] 50 (0, 0))) := ⟨by refine rp ?_; refine blk_far ?_ NB477_496.out _; refine rp ?_; refine blk_far ?_ NB477_496.out _; refine rp ?_; refine blk_far ?_ NB477_496.out _; refine rp ?_; refine blk_far ?_ NB477_496.out _; exact bk BK477⟩
                        have n1_ : Aside0 (((((w93.setCell ⟨gb496, 0, none⟩ (.int .i64 4)).setCell ⟨gb496, 1, none⟩ (.int .i64 0)).setCell ⟨gb496, 2, none⟩ (.float .f64 0)).setCell ⟨gb496, 3, none⟩ (.string t493)).heap[gb496]? = some (.cells #[.int .i64 4, .int .i64 0, .float .f64 0, .string t493] 50 (0, 0))) := ⟨by refine rp ?_; refine blk_put (cs := #[.int .i64 4, .int .i64 0, .float .f64 0, .string (⟨#[]⟩ : ByteArray)]) ?_ 3 _ rfl; refine rp ?_; refine blk_put (cs := #[.int .i64 4, .int .i64 0, .float .f64 0, .string (⟨#[]⟩ : ByteArray)]) ?_ 2 _ rfl; refine rp ?_; refine blk_put (cs := #[.int .i64 4, .int .i64 0, .float .f64 0, .string (⟨#[]⟩ : ByteArray)]) ?_ 1 _ rfl; refine rp ?_; refine blk_put (cs := #[.int .i64 0, .int .i64 0, .float .f64 0, .string (⟨#[]⟩ : ByteArray)]) ?_ 0 _ rfl; exact bk BK496⟩
                        have n2_ : Aside0 (Below w.heap.size w ((((w93.setCell ⟨gb496, 0, none⟩ (.int .i64 4)).setCell ⟨gb496, 1, none⟩ (.int .i64 0)).setCell ⟨gb496, 2, none⟩ (.float .f64 0)).setCell ⟨gb496, 3, none⟩ (.string t493))) := ⟨bl HB⟩
                        (try clear BK477)
                        (try clear BK496)
                        (try clear HB)
                        generalize ((((w93.setCell ⟨gb496, 0, none⟩ (.int .i64 4)).setCell ⟨gb496, 1, none⟩ (.int .i64 0)).setCell ⟨gb496, 2, none⟩ (.float .f64 0)).setCell ⟨gb496, 3, none⟩ (.string t493)) = w96 at n0_ n1_ n2_ ⊢
                        have BK477 := n0_
                        have BK496 := n1_
                        have HB := n2_
                        clear n0_ n1_ n2_
                        have n0_ := am (blk_drew BK477.out)
                        have n1_ := am (blk_drew BK496.out)
                        have n2_ := am (below_drew1 HB.out)
                        clear BK477
                        clear BK496
                        clear HB
                        have BK477 := n0_
                        have BK496 := n1_
                        have HB := n2_
                        clear n0_ n1_ n2_
                        refine start_ (n := 11) (S := fun w' => w'.cell? ⟨gb496, 0, none⟩ = some (.int .i64 4) ∧ w'.cell? ⟨gb496, 1, none⟩ = some (.int .i64 0) ∧ w'.cell? ⟨gb496, 2, none⟩ = some (.float .f64 0) ∧ w'.cell? ⟨gb496, 3, none⟩ = some (.string t493)) (ds := []) (bb 0 11) (by kernel_rfl) rfl rfl ⟨(blk_cell BK496.out 0).trans rfl, (blk_cell BK496.out 1).trans rfl, (blk_cell BK496.out 2).trans rfl, (blk_cell BK496.out 3).trans rfl⟩ (fun hHeld => ?_); refine with_tabW code_get.tab20 code_get.bits20 (fun HT_ HW_ => ?_)
                        generalize w96.drew = w97 at BK477 BK496 HB hHeld ⊢
                        refine pu HT_ 1 (some 72) (bs 11 2) ?_
                        refine pu HT_ 2 (some 73) (bs 11 6) ?_
                        refine pu HT_ 3 (some 74) (bs 11 14) ?_
                        refine pure_ (i := 4) (N := some 75) (v := undef) (a' := ?_) (bs 11 30) rfl rfl (any_of HT_.out (by kernel_rfl)) (fun _ _ _ h => h) (Or.inr ⟨by rfl, rfl⟩) ?_ ?_
                        rotate_left
                        · simp only [Act.put, List.setIfInBounds_toArray, List.set_cons_zero, List.set_cons_succ, i64_w, i32_w]
                          rfl
                        refine pure_ (i := 5) (N := some 76) (v := undef) (a' := ?_) (bs 11 62) rfl rfl (any_of HT_.out (by kernel_rfl)) (fun _ _ _ h => h) (Or.inr ⟨by rfl, rfl⟩) ?_ ?_
                        rotate_left
                        · simp only [Act.put, List.setIfInBounds_toArray, List.set_cons_zero, List.set_cons_succ, i64_w, i32_w]
                          rfl
                        refine pure_ (i := 6) (N := some 77) (v := undef) (a' := ?_) (bs 11 126) rfl rfl (any_of HT_.out (by kernel_rfl)) (fun _ _ _ h => h) (Or.inr ⟨by rfl, rfl⟩) ?_ ?_
                        rotate_left
                        · simp only [Act.put, List.setIfInBounds_toArray, List.set_cons_zero, List.set_cons_succ, i64_w, i32_w]
                          rfl
                        refine pu HT_ 7 (some 78) (bs 11 254) ?_
                        refine tk HT_ HW_ hHeld 0 (some 71) (bb 8 11) ?_
                        refine one_ (i := 8) (N := none) (bb 9 11) rfl rfl (one_of HT_.out (by kernel_rfl)) (by decide) (fun K hK => ?_)
                        have hs98 : w97.cell? ⟨gb477, 0, none⟩ = some (.int .i64 0) := (blk_cell BK477.out 0).trans rfl
                        have hfs98 := blk_frozen BK477.out 0
                        have hns98_1 := NB496_477.out
                        have hms98_1 := NB477_496.out
                        have hs99 : w97.cell? ⟨gb477, 1, none⟩ = some (.int .i64 0) := (blk_cell BK477.out 1).trans rfl
                        have hfs99 := blk_frozen BK477.out 1
                        have hns99_1 := NB496_477.out
                        have hms99_1 := NB477_496.out
                        have hs100 : w97.cell? ⟨gb477, 2, none⟩ = some (.float .f64 0) := (blk_cell BK477.out 2).trans rfl
                        have hfs100 := blk_frozen BK477.out 2
                        have hns100_1 := NB496_477.out
                        have hms100_1 := NB477_496.out
                        have hs101 : w97.cell? ⟨gb477, 3, none⟩ = some (.string (⟨#[]⟩ : ByteArray)) := (blk_cell BK477.out 3).trans rfl
                        have hfs101 := blk_frozen BK477.out 3
                        have hns101_1 := NB496_477.out
                        have hms101_1 := NB477_496.out
                        refine skip_ (w1 := ?_) (by rfl) rfl ?_ ?_
                        rotate_left
                        · go_simp
                          rfl
                        refine hK.out _ _ ⟨((cell_far (p := ⟨gb477, _, none⟩) NB496_477.out _).trans (((cell_far (p := ⟨gb477, _, none⟩) NB496_477.out _).trans (((cell_far (p := ⟨gb477, _, none⟩) NB496_477.out _).trans (((cell_far (p := ⟨gb477, _, none⟩) NB496_477.out _).trans (hHeld.1)))))))), ((cell_far (p := ⟨gb477, _, none⟩) NB496_477.out _).trans (((cell_far (p := ⟨gb477, _, none⟩) NB496_477.out _).trans (((cell_far (p := ⟨gb477, _, none⟩) NB496_477.out _).trans (((cell_far (p := ⟨gb477, _, none⟩) NB496_477.out _).trans (hHeld.2.1)))))))), ((cell_far (p := ⟨gb477, _, none⟩) NB496_477.out _).trans (((cell_far (p := ⟨gb477, _, none⟩) NB496_477.out _).trans (((cell_far (p := ⟨gb477, _, none⟩) NB496_477.out _).trans (((cell_far (p := ⟨gb477, _, none⟩) NB496_477.out _).trans (hHeld.2.2.1)))))))), ((cell_far (p := ⟨gb477, _, none⟩) NB496_477.out _).trans (((cell_far (p := ⟨gb477, _, none⟩) NB496_477.out _).trans (((cell_far (p := ⟨gb477, _, none⟩) NB496_477.out _).trans (((cell_far (p := ⟨gb477, _, none⟩) NB496_477.out _).trans (hHeld.2.2.2))))))))⟩ (fun hHeld => ?_)
                        clear hK K
                        refine pu HT_ 9 (some 3) (bb 10 11) ?_
                        refine pu HT_ 10 (some 4) (bb 11 11) ?_
                        refine done_ (done_of HT_.out (by kernel_rfl)) ?_
                        try go_wp2
                        refine bodyPost_ret (results_ctt rfl _ _ gb477 50 #[.int .i64 4, .int .i64 0, .float .f64 0, .string t493] (0, 0) _ rfl (by refine rp ?_; refine blk_put (cs := #[.int .i64 4, .int .i64 0, .float .f64 0, .string (⟨#[]⟩ : ByteArray)]) ?_ 3 _ rfl; refine rp ?_; refine blk_put (cs := #[.int .i64 4, .int .i64 0, .float .f64 0, .string (⟨#[]⟩ : ByteArray)]) ?_ 2 _ rfl; refine rp ?_; refine blk_put (cs := #[.int .i64 4, .int .i64 0, .float .f64 0, .string (⟨#[]⟩ : ByteArray)]) ?_ 1 _ rfl; refine rp ?_; refine blk_put (cs := #[.int .i64 0, .int .i64 0, .float .f64 0, .string (⟨#[]⟩ : ByteArray)]) ?_ 0 _ rfl; exact bk BK477) Tryd.underlying50 rfl (by kernel_rfl)) rfl ?_
                        exact ⟨er, bl HB⟩
                  · replace c53 := Bool.eq_false_iff.mpr c53
                    subst c53
                    have H1 : (some (0, 0, 0, (⟨#[]⟩ : ByteArray), (⟨#[]⟩ : ByteArray), false)) = some (r1, r2, r3, r4, r5, r6) := by rw [if_neg (show ¬ (false = true) by decide)] at H; exact H
                    clear H
                    have H := H1
                    clear H1
                    simp only [Option.some.injEq, Prod.mk.injEq] at H
                    obtain ⟨rfl, rfl, rfl, rfl, rfl, rfl⟩ := H
                    obtain ⟨Z102_0, Z102_1, Z102_2, Z102_3, Y102_0, Y102_1, Y102_2, Y102_3⟩ := bq4 BK477
                    go_wp2
                    refine bodyPost_ret (results_ctt rfl _ _ gb477 50 #[.int .i64 0, .int .i64 0, .float .f64 0, .string (⟨#[]⟩ : ByteArray)] (0, 0) _ rfl (by refine rp ?_; refine blk_put (cs := #[.int .i64 0, .int .i64 0, .float .f64 0, .string (⟨#[]⟩ : ByteArray)]) ?_ 3 _ rfl; refine rp ?_; refine blk_put (cs := #[.int .i64 0, .int .i64 0, .float .f64 0, .string (⟨#[]⟩ : ByteArray)]) ?_ 2 _ rfl; refine rp ?_; refine blk_put (cs := #[.int .i64 0, .int .i64 0, .float .f64 0, .string (⟨#[]⟩ : ByteArray)]) ?_ 1 _ rfl; refine rp ?_; refine blk_put (cs := #[.int .i64 0, .int .i64 0, .float .f64 0, .string (⟨#[]⟩ : ByteArray)]) ?_ 0 _ rfl; exact bk BK477) Tryd.underlying50 rfl (by kernel_rfl)) rfl ?_
                    exact ⟨er, bl HB⟩
    · rw [if_neg c4] at H
      exact absurd H (by simp)
  · rw [if_neg c2] at H
    exact absurd H (by simp)
end Go.Proofs.YtpiifdbicibelaaDoor.PA
end
